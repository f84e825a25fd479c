/-
  Texts of the proof, part 33 of 39.
-/
import Derived.Test.YtjnpcddbgfmpcaaGreatPBF

/-
  The builder in memory: writing a key (put), Key. Conditions: the builder lies in memory.
-/
namespace Go.Proofs.YtjnpcddbgfmpcaaGreat
open Go Go.ChangeShapes Go.WideShapes Go.ChangeAt Go.RowKit Go.Joins Go.Deep
open Go.Proofs.YtjnpcddbgfmpcaaGreat.Ft (V3 vV okV ValsAt inlineB legalB packF codeF typedF allF)
set_option linter.unusedVariables false
set_option linter.unusedSimpArgs false
section
variable {B : Nat} {q : Ptrs} {most flags : Int} {κ0 : Nat → Nat} {x : BS} {w w0 : World} {Kp : List (Nat × Obj)}
theorem Env.keysGet (k : ByteArray) (h : Env B q most flags w0 κ0 Kp x w) : Calls Tryz.prog 55 #[bptr q.k, .string k] w fun r w' => r = .returned (.tuple #[.int .i64 (getP x.keys k).1, .bool (getP x.keys k).2]) ∧ Grew w w' := by
  obtain ⟨κ, hb, _⟩ := h
  exact get_any k hb.keys
theorem Env.textsGet (k : ByteArray) (h : Env B q most flags w0 κ0 Kp x w) : Calls Tryz.prog 55 #[bptr q.t, .string k] w fun r w' => r = .returned (.tuple #[.int .i64 (getP x.texts k).1, .bool (getP x.texts k).2]) ∧ Grew w w' := by
  obtain ⟨κ, hb, _⟩ := h
  exact get_any k hb.texts
theorem Env.listsGet (k : ByteArray) (h : Env B q most flags w0 κ0 Kp x w) : Calls Tryz.prog 55 #[bptr q.l, .string k] w fun r w' => r = .returned (.tuple #[.int .i64 (getP x.lists k).1, .bool (getP x.lists k).2]) ∧ Grew w w' := by
  obtain ⟨κ, hb, _⟩ := h
  exact get_any k hb.lists
theorem Env.onE (flag : Int) (h : Env B q most flags w0 κ0 Kp x w) : Calls Tryz.prog 56 #[.pointer (some ⟨q.p, 3, none⟩), .int .i64 flag] w fun r w' => r = .returned (.bool (onF flags flag)) ∧ w' = w := by
  obtain ⟨κ, hb, _⟩ := h
  exact on_any flag hb
theorem Env.keysPut (k : ByteArray) (a : Int) (hl : x.keys.length ≤ 1048576) (h : Env B q most flags w0 κ0 Kp x w) : Calls Tryz.prog 113 #[bptr q.k, .string k, .int .i64 a] w fun r w' => r = .returned (.int .i64 (putE15 k a x.keys)) ∧ Env B q most flags w0 κ0 Kp { x with keys := putP k a x.keys } w' :=
  h.call fun κ hb hz => (pput_any k a hb.keys hb.ok.keys).mono fun r w' hr => ⟨hr.1, hb.keys_step (Nat.le_trans (putP_length k a x.keys) (by omega)) (putP_ok hb.ok.okK) hr.2⟩
theorem Env.textsPut (k : ByteArray) (a : Int) (hl : x.texts.length ≤ 1048576) (h : Env B q most flags w0 κ0 Kp x w) : Calls Tryz.prog 113 #[bptr q.t, .string k, .int .i64 a] w fun r w' => r = .returned (.int .i64 (putE15 k a x.texts)) ∧ Env B q most flags w0 κ0 Kp { x with texts := putP k a x.texts } w' :=
  h.call fun κ hb hz => (pput_any k a hb.texts hb.ok.texts).mono fun r w' hr => ⟨hr.1, hb.texts_step (Nat.le_trans (putP_length k a x.texts) (by omega)) (putP_ok hb.ok.okT) hr.2⟩
theorem Env.listsPut (k : ByteArray) (a : Int) (hl : x.lists.length ≤ 1048576) (h : Env B q most flags w0 κ0 Kp x w) : Calls Tryz.prog 113 #[bptr q.l, .string k, .int .i64 a] w fun r w' => r = .returned (.int .i64 (putE15 k a x.lists)) ∧ Env B q most flags w0 κ0 Kp { x with lists := putP k a x.lists } w' :=
  h.call fun κ hb hz => (pput_any k a hb.lists hb.ok.lists).mono fun r w' hr => ⟨hr.1, hb.lists_step (Nat.le_trans (putP_length k a x.lists) (by omega)) hr.2⟩
theorem Env.text2 (a b : ByteArray) (hss : sizeS [a, b] ≤ 1073741824) (h : Env B q most flags w0 κ0 Kp x w) : Calls Tryz.prog 72 #[bptr q.b, .slice (some ⟨w.heap.size, 0, none⟩) 2 2] (w.alloc (.cells #[.string a, .string b] 9)) fun r w' => r = .returned (.tuple #[]) ∧ Env B q most flags w0 κ0 Kp { x with s := putS most (bytesS [a, b]) x.s } w' :=
  h.callw fun κ hb hz => by
    obtain ⟨h0, o, h1, h2⟩ := hb.buf
    refine (textNew2 x.s a b _ rfl h1 (Nat.zero_le _) hb.ok.len hb.ok.m1 hss).mono fun r w' hr => ⟨hr.1, ?_⟩
    obtain ⟨S', k1, k2, k3⟩ := BufS.turn (S := fun k => κ k = 2) h0 h1 h2 hr.2
    exact hb.buf_step (putS_le hb.ok.len) k1 k2 k3
theorem Env.name (k : ByteArray) (a : Int) {w' : World} (h : Env B q most flags w0 κ0 Kp x w) (hb' : MapU w' q.m (namesV x.names ++ [(a, .string k)])) (ho : w'.os = w.os) (ht : w'.tape = w.tape) (hp : w'.output = w.output) (hs : w'.heap.size = w.heap.size) (hk : ∀ j, j ≠ q.m → w'.heap[j]? = w.heap[j]?) :
    Env B q most flags w0 κ0 Kp { x with names := x.names ++ [(a, k)] } w' :=
  h.after fun κ hb hz => hb.names_step (by simpa [namesV] using hb') ⟨ho, ht, hp, Nat.le_of_eq hs.symm, fun j _ hne => hk j hne⟩
theorem Env.namesAt (h : Env B q most flags w0 κ0 Kp x w) : MapU w q.m (namesV x.names) := by
  obtain ⟨κ, hb, _⟩ := h
  exact hb.names.2
end
theorem findU_none {n : Int} : ∀ {l : List (Int × ByteArray)} (i : Nat), (∀ z ∈ l, z.1 < n) → findU n (namesV l) i = none
  | [], _, _ => rfl
  | z :: r, i, h => by
    have h1 := h z List.mem_cons_self
    show (if n = z.1 then _ else findU n (namesV r) (i + 1)) = none
    rw [if_neg (by omega)]
    exact findU_none (i + 1) fun z hz => h z (List.mem_cons_of_mem _ hz)
set_option maxRecDepth 100000 in
set_option maxHeartbeats 8000000 in
theorem bput_any {B : Nat} {q : Ptrs} {most flags : Int} {κ : Nat → Nat} {x : BS} {w : World} (k : ByteArray) (hk : k.size ≤ 1048576) (hg : x.Good) (h : Bd B q most flags κ x w) : Calls Tryz.prog 95 #[bptr q.p, .string k] w fun r w' => r = .returned (vV (x.put most (onF flags 1) k).1) ∧ TurnX B q most flags κ (x.put most (onF flags 1) k).2 w w' := by
  have HG := Lib.hid hg
  have HE : Hid (Env B q most flags w κ [(w.heap.size, Obj.cells #[.int .i64 0, .int .i64 0, .int .u64 0] 92 (0, 0))] x (w.alloc (.cells #[.int .i64 0, .int .i64 0, .int .u64 0] 92))) := (Env.start h).add _
  have HSS : Hid (sizeS [k, ⟨#[0]⟩] ≤ 1073741824) := by have e : (⟨#[0]⟩ : ByteArray).size = 1 := rfl; show _ ≤ _; simp [sizeS, e]; omega
  have HM : Hid ((w.heap.size, Obj.cells #[.int .i64 0, .int .i64 0, .int .u64 0] 92 (0, 0)) ∈ ([(w.heap.size, Obj.cells #[.int .i64 0, .int .i64 0, .int .u64 0] 92 (0, 0))] : List (Nat × Obj))) := List.mem_cons_self
  clear h hg hk
  go_enter Tryz.func95, Tryz.ntmps95
  go_wp2_with fail
  generalize (w.alloc (.cells #[.int .i64 0, .int .i64 0, .int .u64 0] 92)) = w1 at *
  refine wp_region_phases [5] (EnvW B q most flags w κ [(w.heap.size, Obj.cells #[.int .i64 0, .int .i64 0, .int .u64 0] 92 (0, 0))] [x] (x.fail (keyE k))) (fun _ w w' => Grew w w') ((fun p (_ : Nat → Value) => (fun _ _ _ => True) p)) [[], [0], [0, 1], [], [3], [0, 1, 2, 3, 4]] [[(10, 3), (11, 4)], [(7, 0), (10, 3), (11, 4)], [(7, 0), (8, 1), (10, 3), (11, 4)], [(7, 0), (8, 1), (9, 2)], [(7, 0), (8, 1), (9, 2), (10, 3)], [(7, 0), (8, 1), (9, 2), (10, 3), (11, 4)]] [(7, 0), (8, 1), (9, 2), (10, 3), (11, 4), (12, 5)]
    [IsP (bptr q.p), IsP (bptr q.p), IsP (bptr q.p), IsP (.string k), IsP (.int .i64 (keyE k)), IsP (.tuple #[])]
    (by kernel_rfl) (EnvW.grew) (HE.out.grew (Grew.refl _).drew) (by kernel_rfl) (by kernel_rfl) ⟨isP_st, isP_st, isP_st, isP_st, isP_st, isP_st, trivial⟩ rfl ?_ ?_
  · intro y w2 hW hF
    simp only [factsP, IsP, Nat.reduceAdd, List.length_cons, List.length_nil] at hF hW
    have h0 := hF.1
    have h1 := hF.2.1
    have h2 := hF.2.2.1
    have h3 := hF.2.2.2.1
    have h4 := hF.2.2.2.2.1
    have h5 := hF.2.2.2.2.2.1
    clear hF
    simp only [fillL, Act.put, List.setIfInBounds_toArray, List.set_cons_zero, List.set_cons_succ, List.getD_cons_zero, List.getD_cons_succ]
    simp only [h0, h1, h2, h3, h4, h5]
    clear h0 h1 h2 h3 h4 h5
    have HE1 : Hid (Env B q most flags w κ [(w.heap.size, Obj.cells #[.int .i64 0, .int .i64 0, .int .u64 0] 92 (0, 0))] (x.fail (keyE k)) w2) := hW
    have c2 := HE1.out.at2
    by_cases hf : (x.fail (keyE k)).e = 0
    · have hx0 : x.e = 0 ∧ keyE k = 0 := by
        have hh : failS x.e (keyE k) = 0 := hf
        unfold failS at hh
        split at hh
        · exact ⟨by assumption, hh⟩
        · exact absurd hh (by assumption)
      have hxx : x.fail (keyE k) = x := by unfold BS.fail failS; rw [if_pos hx0.1, hx0.2, ← hx0.1]
      have HE2 : Hid (Env B q most flags w κ [(w.heap.size, Obj.cells #[.int .i64 0, .int .i64 0, .int .u64 0] 92 (0, 0))] x w2) := by have h := HE1.out; rw [hxx] at h; exact h
      have HX0 := Lib.hid hx0
      rw [hf] at c2
      have HXX := Lib.hid hxx
      have HKL : Hid (x.keys.length ≤ 1048576) := Nat.le_trans (HG.out.ks hx0.1) HE2.out.len
      have HLN : Hid (x.s.1.length ≤ 1048576) := HE2.out.len
      have HNEW : Hid (findU (x.s.1.length : Int) (namesV x.names) 0 = none) := findU_none 0 (HG.out.nm hx0.1)
      have HPU : Hid (∀ b, (getP x.keys k).2 = b → x.put most (onF flags 1) k = if b && (onF flags 1) then ((4, 1, (getP x.keys k).1), x) else ((4, 1, (x.s.1.length : Int)), ({ x with s := putS most (bytesS [k, ⟨#[0]⟩]) x.s, keys := putP k (x.s.1.length : Int) x.keys, names := x.names ++ [((x.s.1.length : Int), k)] } : BS).fail (putS most (bytesS [k, ⟨#[0]⟩]) x.s).2)) := by
        show ∀ b, _ → _ = _
        intro b hb
        unfold BS.put
        rw [hxx]
        simp only [hx0.1, ne_eq, not_true_eq_false, if_false, hb]
        split
        · rfl
        · simp only [BS.fail, failS, hx0.1, if_true]
      clear hf hx0 hxx HE1
      have c4 := HE2.out.at4
      go_wp2_with fail
      refine (HE2.out.keysGet k).mono ?_
      rintro r w3 ⟨rfl, hg3⟩
      have HE3 := Lib.hid (HE2.out.grew hg3)
      clear hg3 c4 c2
      have HGO := Lib.hid (getP_ok (k := k) HE3.out.ok.okK)
      have HPB := Lib.hid (HPU.out _ rfl)
      generalize getP x.keys k = g at *
      obtain ⟨ga, gb⟩ := g
      cases gb with
      | false =>
        have HP : Hid (x.put most (onF flags 1) k = ((4, 1, (x.s.1.length : Int)), ({ x with s := putS most (bytesS [k, ⟨#[0]⟩]) x.s, keys := putP k (x.s.1.length : Int) x.keys, names := x.names ++ [((x.s.1.length : Int), k)] } : BS).fail (putS most (bytesS [k, ⟨#[0]⟩]) x.s).2)) := HPB.out
        have c0 := HE3.out.at0
        go_wp2_with fail
        refine HE3.out.buflen.mono ?_
        rintro r w9 ⟨rfl, hw9⟩
        obtain rfl : w3 = w9 := hw9.symm
        go_wp2_with fail
        refine (HE3.out.text2 k ⟨#[0]⟩ HSS.out).mono ?_
        rintro r w4 ⟨rfl, he⟩
        have HE4 := Lib.hid he
        clear he c0
        have c4 := HE4.out.at4
        go_wp2_with fail
        refine (HE4.out.keysPut k (x.s.1.length : Int) (show ({ x with s := putS most (bytesS [k, ⟨#[0]⟩]) x.s } : BS).keys.length ≤ 1048576 from HKL.out)).mono ?_
        rintro r w5 ⟨rfl, he⟩
        have HE5 := Lib.hid he
        clear he c4
        have c7 := HE5.out.at7
        have hwa := u64_len _ HLN.out
        go_wp2_with (refine wpList_uPut _ Tryz.underlying50 Tryz.underlying32 rfl _ _ _ rfl q.m (namesV x.names) rfl HE5.out.namesAt (x.s.1.length : Int) rfl _ rfl HNEW.out ?_; intro w6 hb' ho ht hp hs hk; have HE6 := Lib.hid (HE5.out.name k (x.s.1.length : Int) hb' ho ht hp hs hk); clear hb' ho ht hp hs hk c7)
        refine wp_region_phases [9] (EnvW B q most flags w κ [(w.heap.size, Obj.cells #[.int .i64 0, .int .i64 0, .int .u64 0] 92 (0, 0))] [{ x with s := putS most (bytesS [k, ⟨#[0]⟩]) x.s, keys := putP k (x.s.1.length : Int) x.keys, names := x.names ++ [((x.s.1.length : Int), k)] }] (({ x with s := putS most (bytesS [k, ⟨#[0]⟩]) x.s, keys := putP k (x.s.1.length : Int) x.keys, names := x.names ++ [((x.s.1.length : Int), k)] } : BS).fail (putS most (bytesS [k, ⟨#[0]⟩]) x.s).2)) (fun _ w w' => Grew w w') ((fun p (_ : Nat → Value) => (fun _ _ _ => True) p)) [[], [0], [0, 1], [], [3], [3, 4], [3, 4, 5], [3, 4, 5, 6], [3, 4, 5, 6, 7], [0, 1, 2, 3, 4, 5, 6, 7, 8]] [[(72, 3), (73, 4), (74, 5), (75, 6), (76, 7), (77, 8)], [(69, 0), (72, 3), (73, 4), (74, 5), (75, 6), (76, 7), (77, 8)], [(69, 0), (70, 1), (72, 3), (73, 4), (74, 5), (75, 6), (76, 7), (77, 8)], [(69, 0), (70, 1), (71, 2)], [(69, 0), (70, 1), (71, 2), (72, 3)], [(69, 0), (70, 1), (71, 2), (72, 3), (73, 4)], [(69, 0), (70, 1), (71, 2), (72, 3), (73, 4), (74, 5)], [(69, 0), (70, 1), (71, 2), (72, 3), (73, 4), (74, 5), (75, 6)], [(69, 0), (70, 1), (71, 2), (72, 3), (73, 4), (74, 5), (75, 6), (76, 7)], [(69, 0), (70, 1), (71, 2), (72, 3), (73, 4), (74, 5), (75, 6), (76, 7), (77, 8)]] [(69, 0), (70, 1), (71, 2), (72, 3), (73, 4), (74, 5), (75, 6), (76, 7), (77, 8), (78, 9)]
          [IsP (bptr q.p), IsP (bptr q.p), IsP (bptr q.p), IsP (bptr q.p), IsP (bptr q.p), IsP (bptr q.p), IsP (bptr q.p), IsP (bptr q.b), IsP (.int .i64 (putS most (bytesS [k, ⟨#[0]⟩]) x.s).2), IsP (.tuple #[])]
          (by kernel_rfl) (EnvW.grew) (HE6.out.grew (Grew.refl _).drew) (by kernel_rfl) (by kernel_rfl) ⟨isP_st, isP_st, isP_st, isP_st, isP_st, isP_st, isP_st, isP_st, isP_st, isP_st, trivial⟩ rfl ?_ ?_
        · intro y w2 hW hF
          simp only [factsP, IsP, Nat.reduceAdd, List.length_cons, List.length_nil] at hF hW
          have h0 := hF.1
          have h1 := hF.2.1
          have h2 := hF.2.2.1
          have h3 := hF.2.2.2.1
          have h4 := hF.2.2.2.2.1
          have h5 := hF.2.2.2.2.2.1
          have h6 := hF.2.2.2.2.2.2.1
          have h7 := hF.2.2.2.2.2.2.2.1
          have h8 := hF.2.2.2.2.2.2.2.2.1
          have h9 := hF.2.2.2.2.2.2.2.2.2.1
          clear hF
          simp only [fillL, Act.put, List.setIfInBounds_toArray, List.set_cons_zero, List.set_cons_succ, List.getD_cons_zero, List.getD_cons_succ]
          simp only [h0, h1, h2, h3, h4, h5, h6, h7, h8, h9]
          clear h0 h1 h2 h3 h4 h5 h6 h7 h8 h9
          have HE8 : Hid (Env B q most flags w κ [(w.heap.size, Obj.cells #[.int .i64 0, .int .i64 0, .int .u64 0] 92 (0, 0))] (({ x with s := putS most (bytesS [k, ⟨#[0]⟩]) x.s, keys := putP k (x.s.1.length : Int) x.keys, names := x.names ++ [((x.s.1.length : Int), k)] } : BS).fail (putS most (bytesS [k, ⟨#[0]⟩]) x.s).2) w2) := hW
          have hrow := HE8.out.kp HM.out
          have c0 := row_cellT hrow 0 _ rfl
          have c1 := row_cellT hrow 1 _ rfl
          have c2 := row_cellT hrow 2 _ rfl
          have f0 := row_frozen hrow 0
          have f1 := row_frozen hrow 1
          have f2 := row_frozen hrow 2
          clear hrow
          go_wp2_with fail
          refine bodyPost_ret (v := vV (4, 1, (x.s.1.length : Int))) (by simp [results, Tryz.results95, go_sem, c0, c1, c2, vV]) rfl ?_
          exact ⟨by rw [HP.out], by rw [HP.out]; exact HE8.out.told HM.out (Nat.le_refl _) (Moved.setCell (p := ⟨w.heap.size, 2, none⟩) (Moved.setCell (p := ⟨w.heap.size, 1, none⟩) (Moved.setCell (p := ⟨w.heap.size, 0, none⟩) (Moved.refl (fun k => k = w.heap.size) _) (fun _ => rfl) _) (fun _ => rfl) _) (fun _ => rfl) _)⟩
        refine ⟨?_, ?_⟩
        · refine wordP_read 0 0 (by kernel_rfl) (by kernel_rfl) (by kernel_rfl) ?_
          intro y w2 p hlo hhi hW hD K hK
          clear hD
          generalize hAA : fillL y _ _ = AA at hK ⊢
          simp only [fillL, Act.put, List.setIfInBounds_toArray, List.set_cons_zero, List.set_cons_succ, List.getD_cons_zero, List.getD_cons_succ, IsP] at hAA
          subst hAA
          simp only [List.getD_cons_zero, List.getD_cons_succ, IsP] at hK
          refine ite_yes (by rfl) ?_
          go_simp
          exact hK _ _ _ rfl (Grew.refl _) rfl
        refine ⟨?_, ?_⟩
        · refine wordP_read 0 0 (by kernel_rfl) (by kernel_rfl) (by kernel_rfl) ?_
          intro y w2 p hlo hhi hW hD K hK
          simp only [depsP, List.getD_cons_zero, List.getD_cons_succ, IsP] at hD
          have h0 := hD.1
          clear hD
          generalize hAA : fillL y _ _ = AA at hK ⊢
          simp only [fillL, Act.put, List.setIfInBounds_toArray, List.set_cons_zero, List.set_cons_succ, List.getD_cons_zero, List.getD_cons_succ, IsP] at hAA
          subst hAA
          simp only [List.getD_cons_zero, List.getD_cons_succ, IsP] at hK
          simp only [h0] at hK ⊢
          clear h0
          refine ite_yes (by rfl) ?_
          go_simp
          exact hK _ _ _ rfl (Grew.refl _) rfl
        refine ⟨?_, ?_⟩
        · refine wordP_read 0 0 (by kernel_rfl) (by kernel_rfl) (by kernel_rfl) ?_
          intro y w2 p hlo hhi hW hD K hK
          simp only [depsP, List.getD_cons_zero, List.getD_cons_succ, IsP] at hD
          have h0 := hD.1
          have h1 := hD.2.1
          clear hD
          generalize hAA : fillL y _ _ = AA at hK ⊢
          simp only [fillL, Act.put, List.setIfInBounds_toArray, List.set_cons_zero, List.set_cons_succ, List.getD_cons_zero, List.getD_cons_succ, IsP] at hAA
          subst hAA
          simp only [List.getD_cons_zero, List.getD_cons_succ, IsP] at hK
          simp only [h0, h1] at hK ⊢
          clear h0 h1
          refine ite_yes (by rfl) ?_
          go_simp
          exact hK _ _ _ rfl (Grew.refl _) rfl
        refine ⟨?_, ?_⟩
        · refine wordP_read 0 0 (by kernel_rfl) (by kernel_rfl) (by kernel_rfl) ?_
          intro y w2 p hlo hhi hW hD K hK
          clear hD
          generalize hAA : fillL y _ _ = AA at hK ⊢
          simp only [fillL, Act.put, List.setIfInBounds_toArray, List.set_cons_zero, List.set_cons_succ, List.getD_cons_zero, List.getD_cons_succ, IsP] at hAA
          subst hAA
          simp only [List.getD_cons_zero, List.getD_cons_succ, IsP] at hK
          refine ite_yes (by rfl) ?_
          go_simp
          exact hK _ _ _ rfl (Grew.refl _) rfl
        refine ⟨?_, ?_⟩
        · refine wordP_read 0 0 (by kernel_rfl) (by kernel_rfl) (by kernel_rfl) ?_
          intro y w2 p hlo hhi hW hD K hK
          simp only [depsP, List.getD_cons_zero, List.getD_cons_succ, IsP] at hD
          have h3 := hD.1
          clear hD
          generalize hAA : fillL y _ _ = AA at hK ⊢
          simp only [fillL, Act.put, List.setIfInBounds_toArray, List.set_cons_zero, List.set_cons_succ, List.getD_cons_zero, List.getD_cons_succ, IsP] at hAA
          subst hAA
          simp only [List.getD_cons_zero, List.getD_cons_succ, IsP] at hK
          simp only [h3] at hK ⊢
          clear h3
          refine ite_yes (by rfl) ?_
          go_simp
          exact hK _ _ _ rfl (Grew.refl _) rfl
        refine ⟨?_, ?_⟩
        · refine wordP_read 0 0 (by kernel_rfl) (by kernel_rfl) (by kernel_rfl) ?_
          intro y w2 p hlo hhi hW hD K hK
          simp only [depsP, List.getD_cons_zero, List.getD_cons_succ, IsP] at hD
          have h3 := hD.1
          have h4 := hD.2.1
          clear hD
          generalize hAA : fillL y _ _ = AA at hK ⊢
          simp only [fillL, Act.put, List.setIfInBounds_toArray, List.set_cons_zero, List.set_cons_succ, List.getD_cons_zero, List.getD_cons_succ, IsP] at hAA
          subst hAA
          simp only [List.getD_cons_zero, List.getD_cons_succ, IsP] at hK
          simp only [h3, h4] at hK ⊢
          clear h3 h4
          refine ite_yes (by rfl) ?_
          go_simp
          exact hK _ _ _ rfl (Grew.refl _) rfl
        refine ⟨?_, ?_⟩
        · refine wordP_read 0 0 (by kernel_rfl) (by kernel_rfl) (by kernel_rfl) ?_
          intro y w2 p hlo hhi hW hD K hK
          simp only [depsP, List.getD_cons_zero, List.getD_cons_succ, IsP] at hD
          have h3 := hD.1
          have h4 := hD.2.1
          have h5 := hD.2.2.1
          clear hD
          generalize hAA : fillL y _ _ = AA at hK ⊢
          simp only [fillL, Act.put, List.setIfInBounds_toArray, List.set_cons_zero, List.set_cons_succ, List.getD_cons_zero, List.getD_cons_succ, IsP] at hAA
          subst hAA
          simp only [List.getD_cons_zero, List.getD_cons_succ, IsP] at hK
          simp only [h3, h4, h5] at hK ⊢
          clear h3 h4 h5
          refine ite_yes (by rfl) ?_
          go_simp
          exact hK _ _ _ rfl (Grew.refl _) rfl
        refine ⟨?_, ?_⟩
        · refine wordP_read 0 0 (by kernel_rfl) (by kernel_rfl) (by kernel_rfl) ?_
          intro y w2 p hlo hhi hW hD K hK
          obtain rfl : p = 0 := by omega
          have dd := Env.at0 hW
          simp only [depsP, List.getD_cons_zero, List.getD_cons_succ, IsP] at hD
          have h3 := hD.1
          have h4 := hD.2.1
          have h5 := hD.2.2.1
          have h6 := hD.2.2.2.1
          clear hD
          generalize hAA : fillL y _ _ = AA at hK ⊢
          simp only [fillL, Act.put, List.setIfInBounds_toArray, List.set_cons_zero, List.set_cons_succ, List.getD_cons_zero, List.getD_cons_succ, IsP] at hAA
          subst hAA
          simp only [List.getD_cons_zero, List.getD_cons_succ, IsP] at hK
          simp only [h3, h4, h5, h6] at hK ⊢
          clear h3 h4 h5 h6
          refine ite_yes (by rfl) ?_
          go_simp
          exact hK _ _ _ rfl (Grew.refl _) rfl
        refine ⟨?_, ?_⟩
        · refine wordP_read 0 0 (by kernel_rfl) (by kernel_rfl) (by kernel_rfl) ?_
          intro y w2 p hlo hhi hW hD K hK
          simp only [depsP, List.getD_cons_zero, List.getD_cons_succ, IsP] at hD
          have h3 := hD.1
          have h4 := hD.2.1
          have h5 := hD.2.2.1
          have h6 := hD.2.2.2.1
          have h7 := hD.2.2.2.2.1
          clear hD
          generalize hAA : fillL y _ _ = AA at hK ⊢
          simp only [fillL, Act.put, List.setIfInBounds_toArray, List.set_cons_zero, List.set_cons_succ, List.getD_cons_zero, List.getD_cons_succ, IsP] at hAA
          subst hAA
          simp only [List.getD_cons_zero, List.getD_cons_succ, IsP] at hK
          simp only [h3, h4, h5, h6, h7] at hK ⊢
          clear h3 h4 h5 h6 h7
          refine ite_yes (by rfl) ?_
          go_simp
          obtain rfl : p = 0 := by omega
          refine (Env.buferr hW).mono ?_
          rintro r w3 ⟨rfl, hw3⟩
          exact hK _ _ _ rfl (by rw [hw3]; exact Grew.refl _) rfl
        refine ⟨?_, ?_⟩
        · refine wordP_write 0 rfl ?_
          intro y w2 hW hD K hK
          simp only [depsP, List.getD_cons_zero, List.getD_cons_succ, IsP] at hD
          have h0 := hD.1
          have h1 := hD.2.1
          have h2 := hD.2.2.1
          have h3 := hD.2.2.2.1
          have h4 := hD.2.2.2.2.1
          have h5 := hD.2.2.2.2.2.1
          have h6 := hD.2.2.2.2.2.2.1
          have h7 := hD.2.2.2.2.2.2.2.1
          have h8 := hD.2.2.2.2.2.2.2.2.1
          clear hD
          generalize hAA : fillL y _ _ = AA at hK ⊢
          simp only [fillL, Act.put, List.setIfInBounds_toArray, List.set_cons_zero, List.set_cons_succ, List.getD_cons_zero, List.getD_cons_succ, IsP] at hAA
          subst hAA
          simp only [List.getD_cons_zero, List.getD_cons_succ, IsP] at hK
          simp only [h0, h1, h2, h3, h4, h5, h6, h7, h8] at hK ⊢
          clear h0 h1 h2 h3 h4 h5 h6 h7 h8
          refine ite_yes (by rfl) ?_
          go_simp
          refine (Env.call hW fun κ1 hb hz => pfail_any _ hb).mono ?_
          rintro r w3 ⟨rfl, he⟩
          exact hK _ _ _ rfl trivial he rfl
        trivial
      | true =>
        cases ho : onF flags 1 with
        | false =>
          have HP : Hid (x.put most (onF flags 1) k = ((4, 1, (x.s.1.length : Int)), ({ x with s := putS most (bytesS [k, ⟨#[0]⟩]) x.s, keys := putP k (x.s.1.length : Int) x.keys, names := x.names ++ [((x.s.1.length : Int), k)] } : BS).fail (putS most (bytesS [k, ⟨#[0]⟩]) x.s).2)) := by have h := HPB.out; rw [ho] at h; rw [ho]; exact h
          have HO := Lib.hid ho
          clear ho
          go_wp2_with fail
          refine (HE3.out.onE 1).mono ?_
          rw [HO.out]
          rintro r w9 ⟨rfl, hw9⟩
          obtain rfl : w3 = w9 := hw9.symm
          have c0 := HE3.out.at0
          go_wp2_with fail
          refine HE3.out.buflen.mono ?_
          rintro r w9 ⟨rfl, hw9⟩
          obtain rfl : w3 = w9 := hw9.symm
          go_wp2_with fail
          refine (HE3.out.text2 k ⟨#[0]⟩ HSS.out).mono ?_
          rintro r w4 ⟨rfl, he⟩
          have HE4 := Lib.hid he
          clear he c0
          have c4 := HE4.out.at4
          go_wp2_with fail
          refine (HE4.out.keysPut k (x.s.1.length : Int) (show ({ x with s := putS most (bytesS [k, ⟨#[0]⟩]) x.s } : BS).keys.length ≤ 1048576 from HKL.out)).mono ?_
          rintro r w5 ⟨rfl, he⟩
          have HE5 := Lib.hid he
          clear he c4
          have c7 := HE5.out.at7
          have hwa := u64_len _ HLN.out
          go_wp2_with (refine wpList_uPut _ Tryz.underlying50 Tryz.underlying32 rfl _ _ _ rfl q.m (namesV x.names) rfl HE5.out.namesAt (x.s.1.length : Int) rfl _ rfl HNEW.out ?_; intro w6 hb' ho ht hp hs hk; have HE6 := Lib.hid (HE5.out.name k (x.s.1.length : Int) hb' ho ht hp hs hk); clear hb' ho ht hp hs hk c7)
          refine wp_region_phases [9] (EnvW B q most flags w κ [(w.heap.size, Obj.cells #[.int .i64 0, .int .i64 0, .int .u64 0] 92 (0, 0))] [{ x with s := putS most (bytesS [k, ⟨#[0]⟩]) x.s, keys := putP k (x.s.1.length : Int) x.keys, names := x.names ++ [((x.s.1.length : Int), k)] }] (({ x with s := putS most (bytesS [k, ⟨#[0]⟩]) x.s, keys := putP k (x.s.1.length : Int) x.keys, names := x.names ++ [((x.s.1.length : Int), k)] } : BS).fail (putS most (bytesS [k, ⟨#[0]⟩]) x.s).2)) (fun _ w w' => Grew w w') ((fun p (_ : Nat → Value) => (fun _ _ _ => True) p)) [[], [0], [0, 1], [], [3], [3, 4], [3, 4, 5], [3, 4, 5, 6], [3, 4, 5, 6, 7], [0, 1, 2, 3, 4, 5, 6, 7, 8]] [[(72, 3), (73, 4), (74, 5), (75, 6), (76, 7), (77, 8)], [(69, 0), (72, 3), (73, 4), (74, 5), (75, 6), (76, 7), (77, 8)], [(69, 0), (70, 1), (72, 3), (73, 4), (74, 5), (75, 6), (76, 7), (77, 8)], [(69, 0), (70, 1), (71, 2)], [(69, 0), (70, 1), (71, 2), (72, 3)], [(69, 0), (70, 1), (71, 2), (72, 3), (73, 4)], [(69, 0), (70, 1), (71, 2), (72, 3), (73, 4), (74, 5)], [(69, 0), (70, 1), (71, 2), (72, 3), (73, 4), (74, 5), (75, 6)], [(69, 0), (70, 1), (71, 2), (72, 3), (73, 4), (74, 5), (75, 6), (76, 7)], [(69, 0), (70, 1), (71, 2), (72, 3), (73, 4), (74, 5), (75, 6), (76, 7), (77, 8)]] [(69, 0), (70, 1), (71, 2), (72, 3), (73, 4), (74, 5), (75, 6), (76, 7), (77, 8), (78, 9)]
            [IsP (bptr q.p), IsP (bptr q.p), IsP (bptr q.p), IsP (bptr q.p), IsP (bptr q.p), IsP (bptr q.p), IsP (bptr q.p), IsP (bptr q.b), IsP (.int .i64 (putS most (bytesS [k, ⟨#[0]⟩]) x.s).2), IsP (.tuple #[])]
            (by kernel_rfl) (EnvW.grew) (HE6.out.grew (Grew.refl _).drew) (by kernel_rfl) (by kernel_rfl) ⟨isP_st, isP_st, isP_st, isP_st, isP_st, isP_st, isP_st, isP_st, isP_st, isP_st, trivial⟩ rfl ?_ ?_
          · intro y w2 hW hF
            simp only [factsP, IsP, Nat.reduceAdd, List.length_cons, List.length_nil] at hF hW
            have h0 := hF.1
            have h1 := hF.2.1
            have h2 := hF.2.2.1
            have h3 := hF.2.2.2.1
            have h4 := hF.2.2.2.2.1
            have h5 := hF.2.2.2.2.2.1
            have h6 := hF.2.2.2.2.2.2.1
            have h7 := hF.2.2.2.2.2.2.2.1
            have h8 := hF.2.2.2.2.2.2.2.2.1
            have h9 := hF.2.2.2.2.2.2.2.2.2.1
            clear hF
            simp only [fillL, Act.put, List.setIfInBounds_toArray, List.set_cons_zero, List.set_cons_succ, List.getD_cons_zero, List.getD_cons_succ]
            simp only [h0, h1, h2, h3, h4, h5, h6, h7, h8, h9]
            clear h0 h1 h2 h3 h4 h5 h6 h7 h8 h9
            have HE8 : Hid (Env B q most flags w κ [(w.heap.size, Obj.cells #[.int .i64 0, .int .i64 0, .int .u64 0] 92 (0, 0))] (({ x with s := putS most (bytesS [k, ⟨#[0]⟩]) x.s, keys := putP k (x.s.1.length : Int) x.keys, names := x.names ++ [((x.s.1.length : Int), k)] } : BS).fail (putS most (bytesS [k, ⟨#[0]⟩]) x.s).2) w2) := hW
            have hrow := HE8.out.kp HM.out
            have c0 := row_cellT hrow 0 _ rfl
            have c1 := row_cellT hrow 1 _ rfl
            have c2 := row_cellT hrow 2 _ rfl
            have f0 := row_frozen hrow 0
            have f1 := row_frozen hrow 1
            have f2 := row_frozen hrow 2
            clear hrow
            go_wp2_with fail
            refine bodyPost_ret (v := vV (4, 1, (x.s.1.length : Int))) (by simp [results, Tryz.results95, go_sem, c0, c1, c2, vV]) rfl ?_
            exact ⟨by rw [HP.out], by rw [HP.out]; exact HE8.out.told HM.out (Nat.le_refl _) (Moved.setCell (p := ⟨w.heap.size, 2, none⟩) (Moved.setCell (p := ⟨w.heap.size, 1, none⟩) (Moved.setCell (p := ⟨w.heap.size, 0, none⟩) (Moved.refl (fun k => k = w.heap.size) _) (fun _ => rfl) _) (fun _ => rfl) _) (fun _ => rfl) _)⟩
          refine ⟨?_, ?_⟩
          · refine wordP_read 0 0 (by kernel_rfl) (by kernel_rfl) (by kernel_rfl) ?_
            intro y w2 p hlo hhi hW hD K hK
            clear hD
            generalize hAA : fillL y _ _ = AA at hK ⊢
            simp only [fillL, Act.put, List.setIfInBounds_toArray, List.set_cons_zero, List.set_cons_succ, List.getD_cons_zero, List.getD_cons_succ, IsP] at hAA
            subst hAA
            simp only [List.getD_cons_zero, List.getD_cons_succ, IsP] at hK
            refine ite_yes (by rfl) ?_
            go_simp
            exact hK _ _ _ rfl (Grew.refl _) rfl
          refine ⟨?_, ?_⟩
          · refine wordP_read 0 0 (by kernel_rfl) (by kernel_rfl) (by kernel_rfl) ?_
            intro y w2 p hlo hhi hW hD K hK
            simp only [depsP, List.getD_cons_zero, List.getD_cons_succ, IsP] at hD
            have h0 := hD.1
            clear hD
            generalize hAA : fillL y _ _ = AA at hK ⊢
            simp only [fillL, Act.put, List.setIfInBounds_toArray, List.set_cons_zero, List.set_cons_succ, List.getD_cons_zero, List.getD_cons_succ, IsP] at hAA
            subst hAA
            simp only [List.getD_cons_zero, List.getD_cons_succ, IsP] at hK
            simp only [h0] at hK ⊢
            clear h0
            refine ite_yes (by rfl) ?_
            go_simp
            exact hK _ _ _ rfl (Grew.refl _) rfl
          refine ⟨?_, ?_⟩
          · refine wordP_read 0 0 (by kernel_rfl) (by kernel_rfl) (by kernel_rfl) ?_
            intro y w2 p hlo hhi hW hD K hK
            simp only [depsP, List.getD_cons_zero, List.getD_cons_succ, IsP] at hD
            have h0 := hD.1
            have h1 := hD.2.1
            clear hD
            generalize hAA : fillL y _ _ = AA at hK ⊢
            simp only [fillL, Act.put, List.setIfInBounds_toArray, List.set_cons_zero, List.set_cons_succ, List.getD_cons_zero, List.getD_cons_succ, IsP] at hAA
            subst hAA
            simp only [List.getD_cons_zero, List.getD_cons_succ, IsP] at hK
            simp only [h0, h1] at hK ⊢
            clear h0 h1
            refine ite_yes (by rfl) ?_
            go_simp
            exact hK _ _ _ rfl (Grew.refl _) rfl
          refine ⟨?_, ?_⟩
          · refine wordP_read 0 0 (by kernel_rfl) (by kernel_rfl) (by kernel_rfl) ?_
            intro y w2 p hlo hhi hW hD K hK
            clear hD
            generalize hAA : fillL y _ _ = AA at hK ⊢
            simp only [fillL, Act.put, List.setIfInBounds_toArray, List.set_cons_zero, List.set_cons_succ, List.getD_cons_zero, List.getD_cons_succ, IsP] at hAA
            subst hAA
            simp only [List.getD_cons_zero, List.getD_cons_succ, IsP] at hK
            refine ite_yes (by rfl) ?_
            go_simp
            exact hK _ _ _ rfl (Grew.refl _) rfl
          refine ⟨?_, ?_⟩
          · refine wordP_read 0 0 (by kernel_rfl) (by kernel_rfl) (by kernel_rfl) ?_
            intro y w2 p hlo hhi hW hD K hK
            simp only [depsP, List.getD_cons_zero, List.getD_cons_succ, IsP] at hD
            have h3 := hD.1
            clear hD
            generalize hAA : fillL y _ _ = AA at hK ⊢
            simp only [fillL, Act.put, List.setIfInBounds_toArray, List.set_cons_zero, List.set_cons_succ, List.getD_cons_zero, List.getD_cons_succ, IsP] at hAA
            subst hAA
            simp only [List.getD_cons_zero, List.getD_cons_succ, IsP] at hK
            simp only [h3] at hK ⊢
            clear h3
            refine ite_yes (by rfl) ?_
            go_simp
            exact hK _ _ _ rfl (Grew.refl _) rfl
          refine ⟨?_, ?_⟩
          · refine wordP_read 0 0 (by kernel_rfl) (by kernel_rfl) (by kernel_rfl) ?_
            intro y w2 p hlo hhi hW hD K hK
            simp only [depsP, List.getD_cons_zero, List.getD_cons_succ, IsP] at hD
            have h3 := hD.1
            have h4 := hD.2.1
            clear hD
            generalize hAA : fillL y _ _ = AA at hK ⊢
            simp only [fillL, Act.put, List.setIfInBounds_toArray, List.set_cons_zero, List.set_cons_succ, List.getD_cons_zero, List.getD_cons_succ, IsP] at hAA
            subst hAA
            simp only [List.getD_cons_zero, List.getD_cons_succ, IsP] at hK
            simp only [h3, h4] at hK ⊢
            clear h3 h4
            refine ite_yes (by rfl) ?_
            go_simp
            exact hK _ _ _ rfl (Grew.refl _) rfl
          refine ⟨?_, ?_⟩
          · refine wordP_read 0 0 (by kernel_rfl) (by kernel_rfl) (by kernel_rfl) ?_
            intro y w2 p hlo hhi hW hD K hK
            simp only [depsP, List.getD_cons_zero, List.getD_cons_succ, IsP] at hD
            have h3 := hD.1
            have h4 := hD.2.1
            have h5 := hD.2.2.1
            clear hD
            generalize hAA : fillL y _ _ = AA at hK ⊢
            simp only [fillL, Act.put, List.setIfInBounds_toArray, List.set_cons_zero, List.set_cons_succ, List.getD_cons_zero, List.getD_cons_succ, IsP] at hAA
            subst hAA
            simp only [List.getD_cons_zero, List.getD_cons_succ, IsP] at hK
            simp only [h3, h4, h5] at hK ⊢
            clear h3 h4 h5
            refine ite_yes (by rfl) ?_
            go_simp
            exact hK _ _ _ rfl (Grew.refl _) rfl
          refine ⟨?_, ?_⟩
          · refine wordP_read 0 0 (by kernel_rfl) (by kernel_rfl) (by kernel_rfl) ?_
            intro y w2 p hlo hhi hW hD K hK
            obtain rfl : p = 0 := by omega
            have dd := Env.at0 hW
            simp only [depsP, List.getD_cons_zero, List.getD_cons_succ, IsP] at hD
            have h3 := hD.1
            have h4 := hD.2.1
            have h5 := hD.2.2.1
            have h6 := hD.2.2.2.1
            clear hD
            generalize hAA : fillL y _ _ = AA at hK ⊢
            simp only [fillL, Act.put, List.setIfInBounds_toArray, List.set_cons_zero, List.set_cons_succ, List.getD_cons_zero, List.getD_cons_succ, IsP] at hAA
            subst hAA
            simp only [List.getD_cons_zero, List.getD_cons_succ, IsP] at hK
            simp only [h3, h4, h5, h6] at hK ⊢
            clear h3 h4 h5 h6
            refine ite_yes (by rfl) ?_
            go_simp
            exact hK _ _ _ rfl (Grew.refl _) rfl
          refine ⟨?_, ?_⟩
          · refine wordP_read 0 0 (by kernel_rfl) (by kernel_rfl) (by kernel_rfl) ?_
            intro y w2 p hlo hhi hW hD K hK
            simp only [depsP, List.getD_cons_zero, List.getD_cons_succ, IsP] at hD
            have h3 := hD.1
            have h4 := hD.2.1
            have h5 := hD.2.2.1
            have h6 := hD.2.2.2.1
            have h7 := hD.2.2.2.2.1
            clear hD
            generalize hAA : fillL y _ _ = AA at hK ⊢
            simp only [fillL, Act.put, List.setIfInBounds_toArray, List.set_cons_zero, List.set_cons_succ, List.getD_cons_zero, List.getD_cons_succ, IsP] at hAA
            subst hAA
            simp only [List.getD_cons_zero, List.getD_cons_succ, IsP] at hK
            simp only [h3, h4, h5, h6, h7] at hK ⊢
            clear h3 h4 h5 h6 h7
            refine ite_yes (by rfl) ?_
            go_simp
            obtain rfl : p = 0 := by omega
            refine (Env.buferr hW).mono ?_
            rintro r w3 ⟨rfl, hw3⟩
            exact hK _ _ _ rfl (by rw [hw3]; exact Grew.refl _) rfl
          refine ⟨?_, ?_⟩
          · refine wordP_write 0 rfl ?_
            intro y w2 hW hD K hK
            simp only [depsP, List.getD_cons_zero, List.getD_cons_succ, IsP] at hD
            have h0 := hD.1
            have h1 := hD.2.1
            have h2 := hD.2.2.1
            have h3 := hD.2.2.2.1
            have h4 := hD.2.2.2.2.1
            have h5 := hD.2.2.2.2.2.1
            have h6 := hD.2.2.2.2.2.2.1
            have h7 := hD.2.2.2.2.2.2.2.1
            have h8 := hD.2.2.2.2.2.2.2.2.1
            clear hD
            generalize hAA : fillL y _ _ = AA at hK ⊢
            simp only [fillL, Act.put, List.setIfInBounds_toArray, List.set_cons_zero, List.set_cons_succ, List.getD_cons_zero, List.getD_cons_succ, IsP] at hAA
            subst hAA
            simp only [List.getD_cons_zero, List.getD_cons_succ, IsP] at hK
            simp only [h0, h1, h2, h3, h4, h5, h6, h7, h8] at hK ⊢
            clear h0 h1 h2 h3 h4 h5 h6 h7 h8
            refine ite_yes (by rfl) ?_
            go_simp
            refine (Env.call hW fun κ1 hb hz => pfail_any _ hb).mono ?_
            rintro r w3 ⟨rfl, he⟩
            exact hK _ _ _ rfl trivial he rfl
          trivial
        | true =>
          have HP : Hid (x.put most (onF flags 1) k = ((4, 1, ga), x)) := by have h := HPB.out; rw [ho] at h; rw [ho]; exact h
          have HO := Lib.hid ho
          clear ho
          go_wp2_with fail
          refine (HE3.out.onE 1).mono ?_
          rw [HO.out]
          rintro r w9 ⟨rfl, hw9⟩
          obtain rfl : w3 = w9 := hw9.symm
          have HE8 := HE3
          have hwa : IntKind.u64.wrap ga = ga := by have h := HGO.out; simp [IntKind.wrap, IntKind.bits, IntKind.signed]; omega
          have hrow := HE8.out.kp HM.out
          have c0 := row_cellT hrow 0 _ rfl
          have c1 := row_cellT hrow 1 _ rfl
          have c2 := row_cellT hrow 2 _ rfl
          have f0 := row_frozen hrow 0
          have f1 := row_frozen hrow 1
          have f2 := row_frozen hrow 2
          clear hrow
          go_wp2_with fail
          refine bodyPost_ret (v := vV (4, 1, ga)) (by simp [results, Tryz.results95, go_sem, c0, c1, c2, vV]) rfl ?_
          exact ⟨by rw [HP.out], by rw [HP.out]; exact HE8.out.told HM.out (Nat.le_refl _) (Moved.setCell (p := ⟨w.heap.size, 2, none⟩) (Moved.setCell (p := ⟨w.heap.size, 1, none⟩) (Moved.setCell (p := ⟨w.heap.size, 0, none⟩) (Moved.refl (fun k => k = w.heap.size) _) (fun _ => rfl) _) (fun _ => rfl) _) (fun _ => rfl) _)⟩
    · have HP : Hid (x.put most (onF flags 1) k = ((0, 0, 0), x.fail (keyE k))) := by show _ = _; unfold BS.put; simp only [ne_eq, hf, not_false_eq_true, if_true]
      have HE8 := Lib.hid HE1.out
      generalize hex : (x.fail (keyE k)).e = ex at *
      have hne : ¬ ex = 0 := hf
      clear hf hex HE1
      have hrow := HE8.out.kp HM.out
      have c0 := row_cellT hrow 0 _ rfl
      have c1 := row_cellT hrow 1 _ rfl
      have c2 := row_cellT hrow 2 _ rfl
      have f0 := row_frozen hrow 0
      have f1 := row_frozen hrow 1
      have f2 := row_frozen hrow 2
      clear hrow
      go_wp2_with fail
      refine bodyPost_ret (v := vV (0, 0, 0)) (by simp [results, Tryz.results95, go_sem, c0, c1, c2, vV]) rfl ?_
      exact ⟨by rw [HP.out], by rw [HP.out]; exact HE8.out.told HM.out (Nat.le_refl _) (Moved.setCell (p := ⟨w.heap.size, 2, none⟩) (Moved.setCell (p := ⟨w.heap.size, 1, none⟩) (Moved.setCell (p := ⟨w.heap.size, 0, none⟩) (Moved.refl (fun k => k = w.heap.size) _) (fun _ => rfl) _) (fun _ => rfl) _) (fun _ => rfl) _)⟩
  refine ⟨?_, ?_⟩
  · refine wordP_read 0 0 (by kernel_rfl) (by kernel_rfl) (by kernel_rfl) ?_
    intro y w2 p hlo hhi hW hD K hK
    clear hD
    generalize hAA : fillL y _ _ = AA at hK ⊢
    simp only [fillL, Act.put, List.setIfInBounds_toArray, List.set_cons_zero, List.set_cons_succ, List.getD_cons_zero, List.getD_cons_succ, IsP] at hAA
    subst hAA
    simp only [List.getD_cons_zero, List.getD_cons_succ, IsP] at hK
    refine ite_yes (by rfl) ?_
    go_simp
    exact hK _ _ _ rfl (Grew.refl _) rfl
  refine ⟨?_, ?_⟩
  · refine wordP_read 0 0 (by kernel_rfl) (by kernel_rfl) (by kernel_rfl) ?_
    intro y w2 p hlo hhi hW hD K hK
    simp only [depsP, List.getD_cons_zero, List.getD_cons_succ, IsP] at hD
    have h0 := hD.1
    clear hD
    generalize hAA : fillL y _ _ = AA at hK ⊢
    simp only [fillL, Act.put, List.setIfInBounds_toArray, List.set_cons_zero, List.set_cons_succ, List.getD_cons_zero, List.getD_cons_succ, IsP] at hAA
    subst hAA
    simp only [List.getD_cons_zero, List.getD_cons_succ, IsP] at hK
    simp only [h0] at hK ⊢
    clear h0
    refine ite_yes (by rfl) ?_
    go_simp
    exact hK _ _ _ rfl (Grew.refl _) rfl
  refine ⟨?_, ?_⟩
  · refine wordP_read 0 0 (by kernel_rfl) (by kernel_rfl) (by kernel_rfl) ?_
    intro y w2 p hlo hhi hW hD K hK
    simp only [depsP, List.getD_cons_zero, List.getD_cons_succ, IsP] at hD
    have h0 := hD.1
    have h1 := hD.2.1
    clear hD
    generalize hAA : fillL y _ _ = AA at hK ⊢
    simp only [fillL, Act.put, List.setIfInBounds_toArray, List.set_cons_zero, List.set_cons_succ, List.getD_cons_zero, List.getD_cons_succ, IsP] at hAA
    subst hAA
    simp only [List.getD_cons_zero, List.getD_cons_succ, IsP] at hK
    simp only [h0, h1] at hK ⊢
    clear h0 h1
    refine ite_yes (by rfl) ?_
    go_simp
    exact hK _ _ _ rfl (Grew.refl _) rfl
  refine ⟨?_, ?_⟩
  · refine wordP_read 0 0 (by kernel_rfl) (by kernel_rfl) (by kernel_rfl) ?_
    intro y w2 p hlo hhi hW hD K hK
    clear hD
    generalize hAA : fillL y _ _ = AA at hK ⊢
    simp only [fillL, Act.put, List.setIfInBounds_toArray, List.set_cons_zero, List.set_cons_succ, List.getD_cons_zero, List.getD_cons_succ, IsP] at hAA
    subst hAA
    simp only [List.getD_cons_zero, List.getD_cons_succ, IsP] at hK
    refine ite_yes (by rfl) ?_
    go_simp
    exact hK _ _ _ rfl (Grew.refl _) rfl
  refine ⟨?_, ?_⟩
  · refine wordP_read 0 0 (by kernel_rfl) (by kernel_rfl) (by kernel_rfl) ?_
    intro y w2 p hlo hhi hW hD K hK
    simp only [depsP, List.getD_cons_zero, List.getD_cons_succ, IsP] at hD
    have h3 := hD.1
    clear hD
    generalize hAA : fillL y _ _ = AA at hK ⊢
    simp only [fillL, Act.put, List.setIfInBounds_toArray, List.set_cons_zero, List.set_cons_succ, List.getD_cons_zero, List.getD_cons_succ, IsP] at hAA
    subst hAA
    simp only [List.getD_cons_zero, List.getD_cons_succ, IsP] at hK
    simp only [h3] at hK ⊢
    clear h3
    refine ite_yes (by rfl) ?_
    go_simp
    refine (kcheck_any k w2).mono ?_
    rintro r w3 ⟨rfl, hw3⟩
    exact hK _ _ _ rfl (by rw [← hw3]; exact Grew.refl _) rfl
  refine ⟨?_, ?_⟩
  · refine wordP_write 0 rfl ?_
    intro y w2 hW hD K hK
    simp only [depsP, List.getD_cons_zero, List.getD_cons_succ, IsP] at hD
    have h0 := hD.1
    have h1 := hD.2.1
    have h2 := hD.2.2.1
    have h3 := hD.2.2.2.1
    have h4 := hD.2.2.2.2.1
    clear hD
    generalize hAA : fillL y _ _ = AA at hK ⊢
    simp only [fillL, Act.put, List.setIfInBounds_toArray, List.set_cons_zero, List.set_cons_succ, List.getD_cons_zero, List.getD_cons_succ, IsP] at hAA
    subst hAA
    simp only [List.getD_cons_zero, List.getD_cons_succ, IsP] at hK
    simp only [h0, h1, h2, h3, h4] at hK ⊢
    clear h0 h1 h2 h3 h4
    refine ite_yes (by rfl) ?_
    go_simp
    refine (Env.call hW fun κ1 hb hz => pfail_any _ hb).mono ?_
    rintro r w3 ⟨rfl, he⟩
    exact hK _ _ _ rfl trivial he rfl
  trivial
end Go.Proofs.YtjnpcddbgfmpcaaGreat

/-
  The builder in memory: keys, strings and blobs. Conditions: the builder lies in memory.
-/
namespace Go.Proofs.YtjnpcddbgfmpcaaGreat
open Go Go.ChangeShapes Go.WideShapes Go.ChangeAt Go.RowKit Go.Joins Go.Deep
open Go.Proofs.YtjnpcddbgfmpcaaGreat.Ft (V3 vV okV ValsAt inlineB legalB packF codeF typedF allF)
set_option linter.unusedVariables false
set_option linter.unusedSimpArgs false
theorem BS.put_ok {most : Int} {x : BS} {sh : Bool} {k : ByteArray} (h : x.Ok most) : okV (x.put most sh k).1 := by
  have hl := h.len
  have hm := h.m1
  have hk := getP_ok (k := k) h.okK
  unfold BS.put
  dsimp only
  split
  · exact ok0
  · split
    · show (0 : Int) ≤ _ ∧ _ ≤ (18446744073709551615 : Int); dsimp only; omega
    · show (0 : Int) ≤ _ ∧ _ ≤ (18446744073709551615 : Int); dsimp only; omega
set_option maxRecDepth 100000 in
set_option maxHeartbeats 4000000 in
theorem key1_any {B : Nat} {q : Ptrs} {most flags : Int} {κ : Nat → Nat} {x : BS} {w : World} (n1 n2 : Nat) (k : ByteArray) (hk : k.size ≤ 1048576) (hg : x.Good) (hx : x.e = 0) (he : Env B q most flags w κ [(n2, Obj.cells #[.string k] 9 (0, 0)), (n1, Obj.cells #[bptr q.p] 23 (0, 0))] x w) : Calls Tryz.prog 94 #[.pointer (some ⟨n1, 0, none⟩), .pointer (some ⟨n2, 0, none⟩)] w fun r w' => r = .returned (.tuple #[]) ∧ TurnX B q most flags κ (x.key most (onF flags 1) k) w w' := by
  have HE := Lib.hid he
  clear he
  have HM2 : Hid ((n2, Obj.cells #[.string k] 9 (0, 0)) ∈ ([(n2, Obj.cells #[.string k] 9 (0, 0)), (n1, Obj.cells #[bptr q.p] 23 (0, 0))] : List (Nat × Obj))) := List.mem_cons_self
  have HM1 : Hid ((n1, Obj.cells #[bptr q.p] 23 (0, 0)) ∈ ([(n2, Obj.cells #[.string k] 9 (0, 0)), (n1, Obj.cells #[bptr q.p] 23 (0, 0))] : List (Nat × Obj))) := List.mem_cons_of_mem _ (List.mem_cons_self)
  have HPC : Hid (∀ κ1 w2, Bd B q most flags κ1 x w2 → Calls Tryz.prog 95 #[bptr q.p, .string k] w2 fun r w' => r = .returned (vV (x.put most (onF flags 1) k).1) ∧ TurnX B q most flags κ1 (x.put most (onF flags 1) k).2 w2 w') := fun κ1 w2 hb => bput_any k hk hg hb
  have HVO : Hid (okV (x.put most (onF flags 1) k).1) := BS.put_ok HE.out.ok
  have HY : Hid (x.key most (onF flags 1) k = (x.put most (onF flags 1) k).2.push (x.put most (onF flags 1) k).1) := by show _ = _; unfold BS.key; rw [if_pos hx]
  clear hk hg hx
  generalize (x.put most (onF flags 1) k) = P at *
  obtain ⟨⟨ty, wd, n⟩, y⟩ := P
  go_enter Tryz.func94, Tryz.ntmps94
  go_wp2_with fail
  refine wp_region_phases [5, 6] (EnvW B q most flags w κ [(n2, Obj.cells #[.string k] 9 (0, 0)), (n1, Obj.cells #[bptr q.p] 23 (0, 0))] [x, y] (y.push (ty, wd, n))) (fun _ w w' => Grew w w') ((fun p (_ : Nat → Value) => (fun _ _ _ => True) p)) [[], [0], [0, 1], [], [], [3, 4], [0, 1, 2, 3, 4, 5]] [[(5, 3), (6, 4), (7, 5)], [(2, 0), (5, 3), (6, 4), (7, 5)], [(2, 0), (3, 1), (5, 3), (6, 4), (7, 5)], [(2, 0), (3, 1), (4, 2), (6, 4)], [(2, 0), (3, 1), (4, 2), (5, 3)], [(2, 0), (3, 1), (4, 2), (5, 3), (6, 4)], [(2, 0), (3, 1), (4, 2), (5, 3), (6, 4), (7, 5)]] [(2, 0), (3, 1), (4, 2), (5, 3), (6, 4), (7, 5), (8, 6)]
    [IsP (bptr q.p), IsP (bptr q.p), IsP (bptr q.p), IsP (bptr q.p), IsP (.string k), IsP (.agg #[.int .i64 ty, .int .i64 wd, .int .u64 n]), IsP (.tuple #[])]
    (by kernel_rfl) (EnvW.grew) (HE.out.grew (Grew.refl _).drew) (by kernel_rfl) (by kernel_rfl) ⟨isP_st, isP_st, isP_st, isP_st, isP_st, isP_st, isP_st, trivial⟩ rfl ?_ ?_
  · intro y w2 hW hF
    simp only [factsP, IsP, Nat.reduceAdd, List.length_cons, List.length_nil] at hF hW
    have h0 := hF.1
    have h1 := hF.2.1
    have h2 := hF.2.2.1
    have h3 := hF.2.2.2.1
    have h4 := hF.2.2.2.2.1
    have h5 := hF.2.2.2.2.2.1
    have h6 := hF.2.2.2.2.2.2.1
    clear hF
    simp only [fillL, Act.put, List.setIfInBounds_toArray, List.set_cons_zero, List.set_cons_succ, List.getD_cons_zero, List.getD_cons_succ]
    simp only [h0, h1, h2, h3, h4, h5, h6]
    clear h0 h1 h2 h3 h4 h5 h6
    go_wp2
    go_end0
    exact ⟨rfl, by rw [HY.out]; exact Env.turn hW⟩
  refine ⟨?_, ?_⟩
  · refine wordP_read 0 1 (by kernel_rfl) (by kernel_rfl) (by kernel_rfl) ?_
    intro y w2 p hlo hhi hW hD K hK
    have d10 := Env.cell hW HM1.out 0 _ rfl
    clear hD
    generalize hAA : fillL y _ _ = AA at hK ⊢
    simp only [fillL, Act.put, List.setIfInBounds_toArray, List.set_cons_zero, List.set_cons_succ, List.getD_cons_zero, List.getD_cons_succ, IsP] at hAA
    subst hAA
    simp only [List.getD_cons_zero, List.getD_cons_succ, IsP] at hK
    refine ite_yes (by rfl) ?_
    go_simp
    exact hK _ _ _ rfl (Grew.refl _) rfl
  refine ⟨?_, ?_⟩
  · refine wordP_read 0 1 (by kernel_rfl) (by kernel_rfl) (by kernel_rfl) ?_
    intro y w2 p hlo hhi hW hD K hK
    simp only [depsP, List.getD_cons_zero, List.getD_cons_succ, IsP] at hD
    have h0 := hD.1
    clear hD
    generalize hAA : fillL y _ _ = AA at hK ⊢
    simp only [fillL, Act.put, List.setIfInBounds_toArray, List.set_cons_zero, List.set_cons_succ, List.getD_cons_zero, List.getD_cons_succ, IsP] at hAA
    subst hAA
    simp only [List.getD_cons_zero, List.getD_cons_succ, IsP] at hK
    simp only [h0] at hK ⊢
    clear h0
    refine ite_yes (by rfl) ?_
    go_simp
    exact hK _ _ _ rfl (Grew.refl _) rfl
  refine ⟨?_, ?_⟩
  · refine wordP_read 0 1 (by kernel_rfl) (by kernel_rfl) (by kernel_rfl) ?_
    intro y w2 p hlo hhi hW hD K hK
    simp only [depsP, List.getD_cons_zero, List.getD_cons_succ, IsP] at hD
    have h0 := hD.1
    have h1 := hD.2.1
    clear hD
    generalize hAA : fillL y _ _ = AA at hK ⊢
    simp only [fillL, Act.put, List.setIfInBounds_toArray, List.set_cons_zero, List.set_cons_succ, List.getD_cons_zero, List.getD_cons_succ, IsP] at hAA
    subst hAA
    simp only [List.getD_cons_zero, List.getD_cons_succ, IsP] at hK
    simp only [h0, h1] at hK ⊢
    clear h0 h1
    refine ite_yes (by rfl) ?_
    go_simp
    exact hK _ _ _ rfl (Grew.refl _) rfl
  refine ⟨?_, ?_⟩
  · refine wordP_read 0 0 (by kernel_rfl) (by kernel_rfl) (by kernel_rfl) ?_
    intro y w2 p hlo hhi hW hD K hK
    have d10 := Env.cell hW HM1.out 0 _ rfl
    clear hD
    generalize hAA : fillL y _ _ = AA at hK ⊢
    simp only [fillL, Act.put, List.setIfInBounds_toArray, List.set_cons_zero, List.set_cons_succ, List.getD_cons_zero, List.getD_cons_succ, IsP] at hAA
    subst hAA
    simp only [List.getD_cons_zero, List.getD_cons_succ, IsP] at hK
    refine ite_yes (by rfl) ?_
    go_simp
    exact hK _ _ _ rfl (Grew.refl _) rfl
  refine ⟨?_, ?_⟩
  · refine wordP_read 0 0 (by kernel_rfl) (by kernel_rfl) (by kernel_rfl) ?_
    intro y w2 p hlo hhi hW hD K hK
    have d20 := Env.cell hW HM2.out 0 _ rfl
    clear hD
    generalize hAA : fillL y _ _ = AA at hK ⊢
    simp only [fillL, Act.put, List.setIfInBounds_toArray, List.set_cons_zero, List.set_cons_succ, List.getD_cons_zero, List.getD_cons_succ, IsP] at hAA
    subst hAA
    simp only [List.getD_cons_zero, List.getD_cons_succ, IsP] at hK
    refine ite_yes (by rfl) ?_
    go_simp
    exact hK _ _ _ rfl (Grew.refl _) rfl
  refine ⟨?_, ?_⟩
  · refine wordP_write 0 rfl ?_
    intro y w2 hW hD K hK
    simp only [depsP, List.getD_cons_zero, List.getD_cons_succ, IsP] at hD
    have h3 := hD.1
    have h4 := hD.2.1
    clear hD
    generalize hAA : fillL y _ _ = AA at hK ⊢
    simp only [fillL, Act.put, List.setIfInBounds_toArray, List.set_cons_zero, List.set_cons_succ, List.getD_cons_zero, List.getD_cons_succ, IsP] at hAA
    subst hAA
    simp only [List.getD_cons_zero, List.getD_cons_succ, IsP] at hK
    simp only [h3, h4] at hK ⊢
    clear h3 h4
    refine ite_yes (by rfl) ?_
    go_simp
    refine (Env.call hW fun κ1 hb hz => HPC.out κ1 w2 hb).mono ?_
    rintro r w3 ⟨rfl, he⟩
    exact hK _ _ _ rfl trivial he rfl
  refine ⟨?_, ?_⟩
  · refine wordP_write 1 rfl ?_
    intro y w2 hW hD K hK
    simp only [depsP, List.getD_cons_zero, List.getD_cons_succ, IsP] at hD
    have h0 := hD.1
    have h1 := hD.2.1
    have h2 := hD.2.2.1
    have h3 := hD.2.2.2.1
    have h4 := hD.2.2.2.2.1
    have h5 := hD.2.2.2.2.2.1
    clear hD
    generalize hAA : fillL y _ _ = AA at hK ⊢
    simp only [fillL, Act.put, List.setIfInBounds_toArray, List.set_cons_zero, List.set_cons_succ, List.getD_cons_zero, List.getD_cons_succ, IsP] at hAA
    subst hAA
    simp only [List.getD_cons_zero, List.getD_cons_succ, IsP] at hK
    simp only [h0, h1, h2, h3, h4, h5] at hK ⊢
    clear h0 h1 h2 h3 h4 h5
    refine ite_yes (by rfl) ?_
    go_simp
    refine (Env.call hW fun κ1 hb hz => ppush_any (ty, wd, n) HVO.out hb).mono ?_
    rintro r w3 ⟨rfl, he⟩
    exact hK _ _ _ rfl trivial he rfl
  trivial
theorem bkey_any {B : Nat} {q : Ptrs} {most flags : Int} {κ : Nat → Nat} {x : BS} {w : World} (k : ByteArray) (hk : k.size ≤ 1048576) (hg : x.Good) (h : Bd B q most flags κ x w) : Calls Tryz.prog 39 #[bptr q.p, .string k] w fun r w' => r = .returned (.tuple #[]) ∧ TurnX B q most flags κ (x.key most (onF flags 1) k) w w' := by
  have HH := Lib.hid (And.intro hk hg)
  have HE : Hid (Env B q most flags w κ [(w.heap.size + 1, Obj.cells #[.string k] 9 (0, 0)), (w.heap.size, Obj.cells #[bptr q.p] 23 (0, 0))] x ((w.alloc (.cells #[bptr q.p] 23)).alloc (.cells #[.string k] 9))) := by
    have hh := ((Env.start h).add (.cells #[bptr q.p] 23)).add (.cells #[.string k] 9)
    simp only [World.size_alloc, Nat.add_assoc, Nat.reduceAdd] at hh
    exact hh
  clear h hk hg
  go_enter Tryz.func39, Tryz.ntmps39
  go_wp2_with fail
  refine (HE.out.call' fun κ1 hb he => unless_any hb _ _ (x.key most (onF flags 1) k) (fun hx => by unfold BS.key; rw [if_neg hx]) (fun _ => enters_of Tryz.func94 (by kernel_rfl) rfl _ _) (fun hx => key1_any _ _ k HH.out.1 HH.out.2 hx he)).mono ?_
  rintro r w5 ⟨rfl, he⟩
  have HT := Lib.hid he
  clear he
  go_wp2
  go_end0
  exact ⟨rfl, HT.out.turn⟩
set_option maxRecDepth 100000 in
set_option maxHeartbeats 4000000 in
theorem btext_any {B : Nat} {q : Ptrs} {most flags : Int} {κ : Nat → Nat} {x : BS} {w : World} (t : Int) (k z : ByteArray) (hk : k.size ≤ 1048576) (hz : z.size ≤ 1000) (ht : x.texts.length ≤ 1048576) (h : Bd B q most flags κ x w) : Calls Tryz.prog 59 #[bptr q.p, .int .i64 t, .string k, .string z] w fun r w' => r = .returned (.tuple #[]) ∧ TurnX B q most flags κ (x.text most t k z) w w' := by
  have HE := Lib.hid (Env.start h)
  have HWO : Hid (∀ w, Calls Tryz.prog 58 #[.int .u64 (k.size : Int)] w fun r w' => r = .returned (.int .i64 (Ft.widthOf k.size)) ∧ w = w') := fun w => by have h := Ft.widthOf_any (k.size : Int) w (by omega) (by omega); rw [Int.toNat_natCast] at h; exact h
  have HIW : Hid (isW (Ft.widthOf k.size) = true) := widthOf_isW k.size
  obtain ⟨wd, hwd⟩ : ∃ u, Ft.widthOf k.size = u := ⟨_, rfl⟩
  rw [hwd] at HWO HIW
  have HLN : Hid ((numS most wd k.size (alignS most wd x.s)).1.length ≤ 1048576) := by have h1 := numS_le (x := wd) (u := (k.size : Int)) (alignS_le (x := wd) h.ok.len); have h2 := h.ok.m1; show _ ≤ _; omega
  have HVT : Hid (okV (t, wd, ((numS most wd k.size (alignS most wd x.s)).1.length : Int))) := by have h := HLN.out; show (0 : Int) ≤ ((numS most wd k.size (alignS most wd x.s)).1.length : Int) ∧ ((numS most wd k.size (alignS most wd x.s)).1.length : Int) ≤ 18446744073709551615; omega
  have hwa := u64_len _ HLN.out
  have hwk := u64_len _ hk
  have HSS : Hid (sizeS [k, z] ≤ 1073741824) := by show _ ≤ _; simp [sizeS]; omega
  have HTL := Lib.hid ht
  have HY : Hid (x.text most t k z = (({ x with s := putS most (bytesS [k, z]) (numS most wd k.size (alignS most wd x.s)), texts := if t = 5 then putP k ((numS most wd k.size (alignS most wd x.s)).1.length : Int) x.texts else x.texts } : BS).push (t, wd, ((numS most wd k.size (alignS most wd x.s)).1.length : Int)))) := by show _ = _; unfold BS.text; rw [hwd]
  clear h hwd ht hz
  have c0 := HE.out.at0
  go_enter Tryz.func59, Tryz.ntmps59
  go_wp2_with fail
  refine (HWO.out w).mono ?_
  rintro r w1 ⟨rfl, hw1⟩
  obtain rfl : w = w1 := hw1
  go_wp2_with fail
  refine (HE.out.call fun κ1 hb hz => hb.buf_calls (alignS_le hb.ok.len) (fun o ho _ => align_any x.s wd ho (Nat.zero_le _) hb.ok.len hb.ok.m1)).mono ?_
  rintro r w2 ⟨rfl, he⟩
  have HE1 := Lib.hid he
  clear he c0
  have c0 := HE1.out.at0
  go_wp2_with fail
  refine (HE1.out.call fun κ1 hb hz => hb.buf_calls (x := { x with s := alignS most wd x.s }) (numS_le hb.ok.len) (fun o ho _ => num_any (alignS most wd x.s) wd (k.size : Int) ho (Nat.zero_le _) hb.ok.len hb.ok.m1 (by omega) (by omega))).mono ?_
  rintro r w3 ⟨rfl, he⟩
  have HE2 := Lib.hid he
  clear he c0
  have c0 := HE2.out.at0
  go_wp2_with fail
  refine HE2.out.buflen.mono ?_
  rintro r w9 ⟨rfl, hw9⟩
  obtain rfl : w3 = w9 := hw9.symm
  go_wp2_with fail
  refine (HE2.out.text2 k z HSS.out).mono ?_
  rintro r w4 ⟨rfl, he⟩
  have HE3 := Lib.hid he
  clear he c0
  have c5 := HE3.out.at5
  by_cases h5 : t = 5
  · have HY5 : Hid (x.text most t k z = ({ x with s := putS most (bytesS [k, z]) (numS most wd k.size (alignS most wd x.s)), texts := putP k ((numS most wd k.size (alignS most wd x.s)).1.length : Int) x.texts } : BS).push (t, wd, ((numS most wd k.size (alignS most wd x.s)).1.length : Int))) := by show _ = _; rw [HY.out, if_pos h5]
    subst h5
    go_wp2_with fail
    refine (HE3.out.textsPut k ((numS most wd k.size (alignS most wd x.s)).1.length : Int) (show ({ x with s := putS most (bytesS [k, z]) (numS most wd k.size (alignS most wd x.s)) } : BS).texts.length ≤ 1048576 from HTL.out)).mono ?_
    rintro r w5 ⟨rfl, he⟩
    have HE4 := Lib.hid he
    clear he c5
    go_wp2_with fail
    refine (HE4.out.call fun κ1 hb hz => ppush_any (5, wd, ((numS most wd k.size (alignS most wd x.s)).1.length : Int)) HVT.out hb).mono ?_
    rintro r w6 ⟨rfl, he⟩
    have HE5 := Lib.hid he
    clear he
    go_wp2
    go_end0
    exact ⟨rfl, by rw [HY5.out]; exact HE5.out.turn⟩
  · have HY5 : Hid (x.text most t k z = ({ x with s := putS most (bytesS [k, z]) (numS most wd k.size (alignS most wd x.s)) } : BS).push (t, wd, ((numS most wd k.size (alignS most wd x.s)).1.length : Int))) := by show _ = _; rw [HY.out, if_neg h5]
    go_wp2_with fail
    refine (HE3.out.call fun κ1 hb hz => ppush_any (t, wd, ((numS most wd k.size (alignS most wd x.s)).1.length : Int)) HVT.out hb).mono ?_
    rintro r w6 ⟨rfl, he⟩
    have HE5 := Lib.hid he
    clear he
    go_wp2
    go_end0
    exact ⟨rfl, by rw [HY5.out]; exact HE5.out.turn⟩
theorem blob1_any {B : Nat} {q : Ptrs} {most flags : Int} {κ : Nat → Nat} {x : BS} {w : World} (n1 n2 : Nat) (k : ByteArray) (hk : k.size ≤ 1048576) (hg : x.Good) (hx : x.e = 0) (he : Env B q most flags w κ [(n2, Obj.cells #[.string k] 9 (0, 0)), (n1, Obj.cells #[bptr q.p] 23 (0, 0))] x w) : Calls Tryz.prog 90 #[.pointer (some ⟨n1, 0, none⟩), .pointer (some ⟨n2, 0, none⟩)] w fun r w' => r = .returned (.tuple #[]) ∧ TurnX B q most flags κ (x.blob most k) w w' := by
  have HY : Hid (x.blob most k = x.text most 25 k ByteArray.empty) := by show _ = _; unfold BS.blob; rw [if_pos hx]
  have HTL : Hid (x.texts.length ≤ 1048576) := Nat.le_trans (hg.ts hx) he.len
  have HE := Lib.hid he
  have HM2 : Hid ((n2, Obj.cells #[.string k] 9 (0, 0)) ∈ ([(n2, Obj.cells #[.string k] 9 (0, 0)), (n1, Obj.cells #[bptr q.p] 23 (0, 0))] : List (Nat × Obj))) := List.mem_cons_self
  have HM1 : Hid ((n1, Obj.cells #[bptr q.p] 23 (0, 0)) ∈ ([(n2, Obj.cells #[.string k] 9 (0, 0)), (n1, Obj.cells #[bptr q.p] 23 (0, 0))] : List (Nat × Obj))) := List.mem_cons_of_mem _ (List.mem_cons_self)
  have cb := Env.cell he HM1.out 0 _ rfl
  have ck := Env.cell he HM2.out 0 _ rfl
  clear he hx hg
  go_enter Tryz.func90, Tryz.ntmps90
  go_wp2_with fail
  refine (HE.out.call fun κ1 hb hz => btext_any 25 k ByteArray.empty hk (by decide) HTL.out hb).mono ?_
  rintro r w6 ⟨rfl, he⟩
  have HE5 := Lib.hid he
  clear he
  go_wp2
  go_end0
  exact ⟨rfl, by rw [HY.out]; exact HE5.out.turn⟩
theorem bblob_any {B : Nat} {q : Ptrs} {most flags : Int} {κ : Nat → Nat} {x : BS} {w : World} (k : ByteArray) (hk : k.size ≤ 1048576) (hg : x.Good) (h : Bd B q most flags κ x w) : Calls Tryz.prog 29 #[bptr q.p, .string k] w fun r w' => r = .returned (.tuple #[]) ∧ TurnX B q most flags κ (x.blob most k) w w' := by
  have HH := Lib.hid (And.intro hk hg)
  have HE : Hid (Env B q most flags w κ [(w.heap.size + 1, Obj.cells #[.string k] 9 (0, 0)), (w.heap.size, Obj.cells #[bptr q.p] 23 (0, 0))] x ((w.alloc (.cells #[bptr q.p] 23)).alloc (.cells #[.string k] 9))) := by
    have hh := ((Env.start h).add (.cells #[bptr q.p] 23)).add (.cells #[.string k] 9)
    simp only [World.size_alloc, Nat.add_assoc, Nat.reduceAdd] at hh
    exact hh
  clear h hk hg
  go_enter Tryz.func29, Tryz.ntmps29
  go_wp2_with fail
  refine (HE.out.call' fun κ1 hb he => unless_any hb _ _ (x.blob most k) (fun hx => by unfold BS.blob; rw [if_neg hx]) (fun _ => enters_of Tryz.func90 (by kernel_rfl) rfl _ _) (fun hx => blob1_any _ _ k HH.out.1 HH.out.2 hx he)).mono ?_
  rintro r w5 ⟨rfl, he⟩
  have HT := Lib.hid he
  clear he
  go_wp2
  go_end0
  exact ⟨rfl, HT.out.turn⟩
set_option maxRecDepth 100000 in
set_option maxHeartbeats 8000000 in
theorem str1_any {B : Nat} {q : Ptrs} {most flags : Int} {κ : Nat → Nat} {x : BS} {w : World} (n1 n2 : Nat) (k : ByteArray) (hk : k.size ≤ 1048576) (hg : x.Good) (hx : x.e = 0) (he : Env B q most flags w κ [(n2, Obj.cells #[.string k] 9 (0, 0)), (n1, Obj.cells #[bptr q.p] 23 (0, 0))] x w) : Calls Tryz.prog 54 #[.pointer (some ⟨n1, 0, none⟩), .pointer (some ⟨n2, 0, none⟩)] w fun r w' => r = .returned (.tuple #[]) ∧ TurnX B q most flags κ (x.str most (onF flags 2) k) w w' := by
  have HE := Lib.hid he
  have HTL : Hid (x.texts.length ≤ 1048576) := Nat.le_trans (hg.ts hx) he.len
  have HGO := Lib.hid (getP_ok (k := k) he.ok.okT)
  have HM2 : Hid ((n2, Obj.cells #[.string k] 9 (0, 0)) ∈ ([(n2, Obj.cells #[.string k] 9 (0, 0)), (n1, Obj.cells #[bptr q.p] 23 (0, 0))] : List (Nat × Obj))) := List.mem_cons_self
  have HM1 : Hid ((n1, Obj.cells #[bptr q.p] 23 (0, 0)) ∈ ([(n2, Obj.cells #[.string k] 9 (0, 0)), (n1, Obj.cells #[bptr q.p] 23 (0, 0))] : List (Nat × Obj))) := List.mem_cons_of_mem _ (List.mem_cons_self)
  have HPB : Hid (x.str most (onF flags 2) k = if (getP x.texts k).2 && onF flags 2 then x.push (5, Ft.widthOf k.size, (getP x.texts k).1) else x.text most 5 k ⟨#[0]⟩) := by show _ = _; unfold BS.str; rw [if_pos hx]
  have HGE : Hid (∀ w2, Env B q most flags w κ [(n2, Obj.cells #[.string k] 9 (0, 0)), (n1, Obj.cells #[bptr q.p] 23 (0, 0))] x w2 → Calls Tryz.prog 55 #[bptr q.t, .string k] w2 fun r w' => r = .returned (.tuple #[.int .i64 (getP x.texts k).1, .bool (getP x.texts k).2]) ∧ Grew w2 w') := fun w2 h => h.textsGet k
  generalize getP x.texts k = g at HPB HGE HGO
  obtain ⟨ga, gb⟩ := g
  clear he hx hg
  have hwk := u64_len _ hk
  have HWO : Hid (∀ w, Calls Tryz.prog 58 #[.int .u64 (k.size : Int)] w fun r w' => r = .returned (.int .i64 (Ft.widthOf k.size)) ∧ w = w') := fun w => by have h := Ft.widthOf_any (k.size : Int) w (by omega) (by omega); rw [Int.toNat_natCast] at h; exact h
  have hwa : IntKind.u64.wrap ga = ga := by have h := HGO.out; simp [IntKind.wrap, IntKind.bits, IntKind.signed]; omega
  have HVT : Hid (okV (5, Ft.widthOf k.size, ga)) := by have h := HGO.out; show (0 : Int) ≤ ga ∧ ga ≤ 18446744073709551615; omega
  go_enter Tryz.func54, Tryz.ntmps54
  go_wp2_with fail
  refine wp_region_phases [] (EnvW B q most flags w κ [(n2, Obj.cells #[.string k] 9 (0, 0)), (n1, Obj.cells #[bptr q.p] 23 (0, 0))] [x] (x)) (fun _ w w' => Grew w w') ((fun p (_ : Nat → Value) => (fun _ _ _ => True) p)) [[], [0], [0, 1], [0, 1, 2], [0, 1, 2, 3], [], [0, 1, 2, 3, 4, 5], [0, 1, 2, 3, 4, 5, 6], [0, 1, 2, 3, 4, 5, 6, 7], [0, 1, 2, 3, 4, 5, 6, 7], [0, 1, 2, 3, 4, 5, 6, 7, 8], [0, 1, 2, 3, 4, 5, 6, 7, 8, 9, 10]] [[(10, 5)], [(5, 0), (10, 5)], [(5, 0), (6, 1), (10, 5)], [(5, 0), (6, 1), (7, 2), (10, 5)], [(5, 0), (6, 1), (7, 2), (8, 3), (10, 5)], [(5, 0), (6, 1), (7, 2), (8, 3), (9, 4)], [(5, 0), (6, 1), (7, 2), (8, 3), (9, 4), (10, 5)], [(5, 0), (6, 1), (7, 2), (8, 3), (9, 4), (10, 5), (11, 6)], [(5, 0), (6, 1), (7, 2), (8, 3), (9, 4), (10, 5), (11, 6), (4, 7), (13, 9)], [(5, 0), (6, 1), (7, 2), (8, 3), (9, 4), (10, 5), (11, 6), (4, 7), (12, 8), (2, 10)], [(5, 0), (6, 1), (7, 2), (8, 3), (9, 4), (10, 5), (11, 6), (4, 7), (12, 8), (13, 9)], [(5, 0), (6, 1), (7, 2), (8, 3), (9, 4), (10, 5), (11, 6), (4, 7), (12, 8), (13, 9), (2, 10)]] [(5, 0), (6, 1), (7, 2), (8, 3), (9, 4), (10, 5), (11, 6), (4, 7), (12, 8), (13, 9), (2, 10), (3, 11)]
    [IsP (bptr q.p), IsP (bptr q.p), IsP (.pointer (some ⟨q.p, 3, none⟩)), IsP (.pointer (some ⟨q.p, 5, none⟩)), IsP (bptr q.t), IsP (.string k), IsP (.tuple #[.int .i64 ga, .bool gb]), IsP (.tuple #[.int .i64 ga, .bool gb]), IsP (.int .i64 ga), IsP (.bool gb), IsP (.int .i64 ga), IsP (.bool gb)]
    (by kernel_rfl) (EnvW.grew) (HE.out.grew (Grew.refl _).drew) (by kernel_rfl) (by kernel_rfl) ⟨isP_st, isP_st, isP_st, isP_st, isP_st, isP_st, isP_st, isP_st, isP_st, isP_st, isP_st, isP_st, trivial⟩ rfl ?_ ?_
  · intro y w2 hW hF
    simp only [factsP, IsP, Nat.reduceAdd, List.length_cons, List.length_nil] at hF hW
    have h0 := hF.1
    have h1 := hF.2.1
    have h2 := hF.2.2.1
    have h3 := hF.2.2.2.1
    have h4 := hF.2.2.2.2.1
    have h5 := hF.2.2.2.2.2.1
    have h6 := hF.2.2.2.2.2.2.1
    have h7 := hF.2.2.2.2.2.2.2.1
    have h8 := hF.2.2.2.2.2.2.2.2.1
    have h9 := hF.2.2.2.2.2.2.2.2.2.1
    have h10 := hF.2.2.2.2.2.2.2.2.2.2.1
    have h11 := hF.2.2.2.2.2.2.2.2.2.2.2.1
    clear hF
    simp only [fillL, Act.put, List.setIfInBounds_toArray, List.set_cons_zero, List.set_cons_succ, List.getD_cons_zero, List.getD_cons_succ]
    simp only [h0, h1, h2, h3, h4, h5, h6, h7, h8, h9, h10, h11]
    clear h0 h1 h2 h3 h4 h5 h6 h7 h8 h9 h10 h11
    have HE1 : Hid (Env B q most flags w κ [(n2, Obj.cells #[.string k] 9 (0, 0)), (n1, Obj.cells #[bptr q.p] 23 (0, 0))] x w2) := hW
    cases gb with
    | false =>
      have HP : Hid (x.str most (onF flags 2) k = x.text most 5 k ⟨#[0]⟩) := (by have h := HPB.out; show _ = _; simpa using h)
      have cb := Env.cell HE1.out HM1.out 0 _ rfl
      have ck := Env.cell HE1.out HM2.out 0 _ rfl
      go_wp2_with fail
      refine (HE1.out.call fun κ1 hb hz => btext_any 5 k ⟨#[0]⟩ hk (by decide) HTL.out hb).mono ?_
      rintro r w6 ⟨rfl, he⟩
      have HE5 := Lib.hid he
      clear he
      go_wp2
      go_end0
      exact ⟨rfl, by rw [HP.out]; exact HE5.out.turn⟩
    | true =>
      cases ho : onF flags 2 with
      | false =>
        have HO := Lib.hid ho
        have HPZ := Lib.hid (show (x.str most (onF flags 2) k = x.text most 5 k ⟨#[0]⟩) by have h := HPB.out; show _ = _; rw [ho] at h; rw [ho]; simpa using h)
        clear ho
        have cb := Env.cell HE1.out HM1.out 0 _ rfl
        go_wp2_with fail
        refine (HE1.out.onE 2).mono ?_
        rw [HO.out]
        rintro r w9 ⟨rfl, hw9⟩
        obtain rfl : w2 = w9 := hw9.symm
        clear cb
        have HP : Hid (x.str most (onF flags 2) k = x.text most 5 k ⟨#[0]⟩) := HPZ.out
        have cb := Env.cell HE1.out HM1.out 0 _ rfl
        have ck := Env.cell HE1.out HM2.out 0 _ rfl
        go_wp2_with fail
        refine (HE1.out.call fun κ1 hb hz => btext_any 5 k ⟨#[0]⟩ hk (by decide) HTL.out hb).mono ?_
        rintro r w6 ⟨rfl, he⟩
        have HE5 := Lib.hid he
        clear he
        go_wp2
        go_end0
        exact ⟨rfl, by rw [HP.out]; exact HE5.out.turn⟩
      | true =>
        have HO := Lib.hid ho
        have HP : Hid (x.str most (onF flags 2) k = x.push (5, Ft.widthOf k.size, ga)) := by have h := HPB.out; show _ = _; rw [ho] at h; rw [ho]; simpa using h
        clear ho
        have cb := Env.cell HE1.out HM1.out 0 _ rfl
        go_wp2_with fail
        refine (HE1.out.onE 2).mono ?_
        rw [HO.out]
        rintro r w9 ⟨rfl, hw9⟩
        obtain rfl : w2 = w9 := hw9.symm
        clear cb
        go_wp2_with fail
        refine wp_region_phases [10] (EnvW B q most flags w κ [(n2, Obj.cells #[.string k] 9 (0, 0)), (n1, Obj.cells #[bptr q.p] 23 (0, 0))] [x] (x.push (5, Ft.widthOf k.size, ga))) (fun _ w w' => Grew w w') ((fun p (_ : Nat → Value) => (fun _ _ _ => True) p)) [[], [0], [0, 1], [], [3], [3, 4], [3, 4, 5], [], [7], [3, 4, 5, 6, 7, 8], [0, 1, 2, 3, 4, 5, 6, 7, 8, 9]] [[(24, 3), (25, 4), (26, 5), (27, 6), (28, 7), (29, 8), (30, 9)], [(21, 0), (24, 3), (25, 4), (26, 5), (27, 6), (28, 7), (29, 8), (30, 9)], [(21, 0), (22, 1), (24, 3), (25, 4), (26, 5), (27, 6), (28, 7), (29, 8), (30, 9)], [(21, 0), (22, 1), (23, 2), (28, 7), (29, 8)], [(21, 0), (22, 1), (23, 2), (24, 3), (28, 7), (29, 8)], [(21, 0), (22, 1), (23, 2), (24, 3), (25, 4), (28, 7), (29, 8)], [(21, 0), (22, 1), (23, 2), (24, 3), (25, 4), (26, 5), (28, 7), (29, 8)], [(21, 0), (22, 1), (23, 2), (24, 3), (25, 4), (26, 5), (27, 6)], [(21, 0), (22, 1), (23, 2), (24, 3), (25, 4), (26, 5), (27, 6), (28, 7)], [(21, 0), (22, 1), (23, 2), (24, 3), (25, 4), (26, 5), (27, 6), (28, 7), (29, 8)], [(21, 0), (22, 1), (23, 2), (24, 3), (25, 4), (26, 5), (27, 6), (28, 7), (29, 8), (30, 9)]] [(21, 0), (22, 1), (23, 2), (24, 3), (25, 4), (26, 5), (27, 6), (28, 7), (29, 8), (30, 9), (31, 10)]
          [IsP (bptr q.p), IsP (bptr q.p), IsP (bptr q.p), IsP (.string k), IsP (.int .i64 k.size), IsP (.int .u64 k.size), IsP (.int .i64 (Ft.widthOf k.size)), IsP (.int .i64 ga), IsP (.int .u64 ga), IsP (.agg #[.int .i64 5, .int .i64 (Ft.widthOf k.size), .int .u64 ga]), IsP (.tuple #[])]
          (by kernel_rfl) (EnvW.grew) (HE1.out.grew (Grew.refl _).drew) (by kernel_rfl) (by kernel_rfl) ⟨isP_st, isP_st, isP_st, isP_st, isP_st, isP_st, isP_st, isP_st, isP_st, isP_st, isP_st, trivial⟩ rfl ?_ ?_
        · intro y w2 hW hF
          simp only [factsP, IsP, Nat.reduceAdd, List.length_cons, List.length_nil] at hF hW
          have h0 := hF.1
          have h1 := hF.2.1
          have h2 := hF.2.2.1
          have h3 := hF.2.2.2.1
          have h4 := hF.2.2.2.2.1
          have h5 := hF.2.2.2.2.2.1
          have h6 := hF.2.2.2.2.2.2.1
          have h7 := hF.2.2.2.2.2.2.2.1
          have h8 := hF.2.2.2.2.2.2.2.2.1
          have h9 := hF.2.2.2.2.2.2.2.2.2.1
          have h10 := hF.2.2.2.2.2.2.2.2.2.2.1
          clear hF
          simp only [fillL, Act.put, List.setIfInBounds_toArray, List.set_cons_zero, List.set_cons_succ, List.getD_cons_zero, List.getD_cons_succ]
          simp only [h0, h1, h2, h3, h4, h5, h6, h7, h8, h9, h10]
          clear h0 h1 h2 h3 h4 h5 h6 h7 h8 h9 h10
          go_wp2
          refine bodyPost_ret (results_none rfl _ _ _) rfl ?_
          exact ⟨rfl, by rw [HP.out]; exact Env.turn hW⟩
        refine ⟨?_, ?_⟩
        · refine wordP_read 0 0 (by kernel_rfl) (by kernel_rfl) (by kernel_rfl) ?_
          intro y w2 p hlo hhi hW hD K hK
          have d10 := Env.cell hW HM1.out 0 _ rfl
          clear hD
          generalize hAA : fillL y _ _ = AA at hK ⊢
          simp only [fillL, Act.put, List.setIfInBounds_toArray, List.set_cons_zero, List.set_cons_succ, List.getD_cons_zero, List.getD_cons_succ, IsP] at hAA
          subst hAA
          simp only [List.getD_cons_zero, List.getD_cons_succ, IsP] at hK
          refine ite_yes (by rfl) ?_
          go_simp
          exact hK _ _ _ rfl (Grew.refl _) rfl
        refine ⟨?_, ?_⟩
        · refine wordP_read 0 0 (by kernel_rfl) (by kernel_rfl) (by kernel_rfl) ?_
          intro y w2 p hlo hhi hW hD K hK
          simp only [depsP, List.getD_cons_zero, List.getD_cons_succ, IsP] at hD
          have h0 := hD.1
          clear hD
          generalize hAA : fillL y _ _ = AA at hK ⊢
          simp only [fillL, Act.put, List.setIfInBounds_toArray, List.set_cons_zero, List.set_cons_succ, List.getD_cons_zero, List.getD_cons_succ, IsP] at hAA
          subst hAA
          simp only [List.getD_cons_zero, List.getD_cons_succ, IsP] at hK
          simp only [h0] at hK ⊢
          clear h0
          refine ite_yes (by rfl) ?_
          go_simp
          exact hK _ _ _ rfl (Grew.refl _) rfl
        refine ⟨?_, ?_⟩
        · refine wordP_read 0 0 (by kernel_rfl) (by kernel_rfl) (by kernel_rfl) ?_
          intro y w2 p hlo hhi hW hD K hK
          simp only [depsP, List.getD_cons_zero, List.getD_cons_succ, IsP] at hD
          have h0 := hD.1
          have h1 := hD.2.1
          clear hD
          generalize hAA : fillL y _ _ = AA at hK ⊢
          simp only [fillL, Act.put, List.setIfInBounds_toArray, List.set_cons_zero, List.set_cons_succ, List.getD_cons_zero, List.getD_cons_succ, IsP] at hAA
          subst hAA
          simp only [List.getD_cons_zero, List.getD_cons_succ, IsP] at hK
          simp only [h0, h1] at hK ⊢
          clear h0 h1
          refine ite_yes (by rfl) ?_
          go_simp
          exact hK _ _ _ rfl (Grew.refl _) rfl
        refine ⟨?_, ?_⟩
        · refine wordP_read 0 0 (by kernel_rfl) (by kernel_rfl) (by kernel_rfl) ?_
          intro y w2 p hlo hhi hW hD K hK
          have d20 := Env.cell hW HM2.out 0 _ rfl
          clear hD
          generalize hAA : fillL y _ _ = AA at hK ⊢
          simp only [fillL, Act.put, List.setIfInBounds_toArray, List.set_cons_zero, List.set_cons_succ, List.getD_cons_zero, List.getD_cons_succ, IsP] at hAA
          subst hAA
          simp only [List.getD_cons_zero, List.getD_cons_succ, IsP] at hK
          refine ite_yes (by rfl) ?_
          go_simp
          exact hK _ _ _ rfl (Grew.refl _) rfl
        refine ⟨?_, ?_⟩
        · refine wordP_read 0 0 (by kernel_rfl) (by kernel_rfl) (by kernel_rfl) ?_
          intro y w2 p hlo hhi hW hD K hK
          simp only [depsP, List.getD_cons_zero, List.getD_cons_succ, IsP] at hD
          have h3 := hD.1
          clear hD
          generalize hAA : fillL y _ _ = AA at hK ⊢
          simp only [fillL, Act.put, List.setIfInBounds_toArray, List.set_cons_zero, List.set_cons_succ, List.getD_cons_zero, List.getD_cons_succ, IsP] at hAA
          subst hAA
          simp only [List.getD_cons_zero, List.getD_cons_succ, IsP] at hK
          simp only [h3] at hK ⊢
          clear h3
          refine ite_yes (by rfl) ?_
          go_simp
          exact hK _ _ _ rfl (Grew.refl _) rfl
        refine ⟨?_, ?_⟩
        · refine wordP_read 0 0 (by kernel_rfl) (by kernel_rfl) (by kernel_rfl) ?_
          intro y w2 p hlo hhi hW hD K hK
          simp only [depsP, List.getD_cons_zero, List.getD_cons_succ, IsP] at hD
          have h3 := hD.1
          have h4 := hD.2.1
          clear hD
          generalize hAA : fillL y _ _ = AA at hK ⊢
          simp only [fillL, Act.put, List.setIfInBounds_toArray, List.set_cons_zero, List.set_cons_succ, List.getD_cons_zero, List.getD_cons_succ, IsP] at hAA
          subst hAA
          simp only [List.getD_cons_zero, List.getD_cons_succ, IsP] at hK
          simp only [h3, h4] at hK ⊢
          clear h3 h4
          refine ite_yes (by rfl) ?_
          go_simp
          exact hK _ _ _ rfl (Grew.refl _) rfl
        refine ⟨?_, ?_⟩
        · refine wordP_read 0 0 (by kernel_rfl) (by kernel_rfl) (by kernel_rfl) ?_
          intro y w2 p hlo hhi hW hD K hK
          simp only [depsP, List.getD_cons_zero, List.getD_cons_succ, IsP] at hD
          have h3 := hD.1
          have h4 := hD.2.1
          have h5 := hD.2.2.1
          clear hD
          generalize hAA : fillL y _ _ = AA at hK ⊢
          simp only [fillL, Act.put, List.setIfInBounds_toArray, List.set_cons_zero, List.set_cons_succ, List.getD_cons_zero, List.getD_cons_succ, IsP] at hAA
          subst hAA
          simp only [List.getD_cons_zero, List.getD_cons_succ, IsP] at hK
          simp only [h3, h4, h5] at hK ⊢
          clear h3 h4 h5
          refine ite_yes (by rfl) ?_
          go_simp
          refine (HWO.out w2).mono ?_
          rintro r w3 ⟨rfl, hw3⟩
          exact hK _ _ _ rfl (by rw [← hw3]; exact Grew.refl _) rfl
        refine ⟨?_, ?_⟩
        · refine wordP_read 0 0 (by kernel_rfl) (by kernel_rfl) (by kernel_rfl) ?_
          intro y w2 p hlo hhi hW hD K hK
          clear hD
          generalize hAA : fillL y _ _ = AA at hK ⊢
          simp only [fillL, Act.put, List.setIfInBounds_toArray, List.set_cons_zero, List.set_cons_succ, List.getD_cons_zero, List.getD_cons_succ, IsP] at hAA
          subst hAA
          simp only [List.getD_cons_zero, List.getD_cons_succ, IsP] at hK
          refine ite_yes (by rfl) ?_
          go_simp
          exact hK _ _ _ rfl (Grew.refl _) rfl
        refine ⟨?_, ?_⟩
        · refine wordP_read 0 0 (by kernel_rfl) (by kernel_rfl) (by kernel_rfl) ?_
          intro y w2 p hlo hhi hW hD K hK
          simp only [depsP, List.getD_cons_zero, List.getD_cons_succ, IsP] at hD
          have h7 := hD.1
          clear hD
          generalize hAA : fillL y _ _ = AA at hK ⊢
          simp only [fillL, Act.put, List.setIfInBounds_toArray, List.set_cons_zero, List.set_cons_succ, List.getD_cons_zero, List.getD_cons_succ, IsP] at hAA
          subst hAA
          simp only [List.getD_cons_zero, List.getD_cons_succ, IsP] at hK
          simp only [h7] at hK ⊢
          clear h7
          refine ite_yes (by rfl) ?_
          go_simp
          exact hK _ _ _ rfl (Grew.refl _) rfl
        refine ⟨?_, ?_⟩
        · refine wordP_read 0 0 (by kernel_rfl) (by kernel_rfl) (by kernel_rfl) ?_
          intro y w2 p hlo hhi hW hD K hK
          simp only [depsP, List.getD_cons_zero, List.getD_cons_succ, IsP] at hD
          have h3 := hD.1
          have h4 := hD.2.1
          have h5 := hD.2.2.1
          have h6 := hD.2.2.2.1
          have h7 := hD.2.2.2.2.1
          have h8 := hD.2.2.2.2.2.1
          clear hD
          generalize hAA : fillL y _ _ = AA at hK ⊢
          simp only [fillL, Act.put, List.setIfInBounds_toArray, List.set_cons_zero, List.set_cons_succ, List.getD_cons_zero, List.getD_cons_succ, IsP] at hAA
          subst hAA
          simp only [List.getD_cons_zero, List.getD_cons_succ, IsP] at hK
          simp only [h3, h4, h5, h6, h7, h8] at hK ⊢
          clear h3 h4 h5 h6 h7 h8
          refine ite_yes (by rfl) ?_
          go_simp
          exact hK _ _ _ rfl (Grew.refl _) rfl
        refine ⟨?_, ?_⟩
        · refine wordP_write 0 rfl ?_
          intro y w2 hW hD K hK
          simp only [depsP, List.getD_cons_zero, List.getD_cons_succ, IsP] at hD
          have h0 := hD.1
          have h1 := hD.2.1
          have h2 := hD.2.2.1
          have h3 := hD.2.2.2.1
          have h4 := hD.2.2.2.2.1
          have h5 := hD.2.2.2.2.2.1
          have h6 := hD.2.2.2.2.2.2.1
          have h7 := hD.2.2.2.2.2.2.2.1
          have h8 := hD.2.2.2.2.2.2.2.2.1
          have h9 := hD.2.2.2.2.2.2.2.2.2.1
          clear hD
          generalize hAA : fillL y _ _ = AA at hK ⊢
          simp only [fillL, Act.put, List.setIfInBounds_toArray, List.set_cons_zero, List.set_cons_succ, List.getD_cons_zero, List.getD_cons_succ, IsP] at hAA
          subst hAA
          simp only [List.getD_cons_zero, List.getD_cons_succ, IsP] at hK
          simp only [h0, h1, h2, h3, h4, h5, h6, h7, h8, h9] at hK ⊢
          clear h0 h1 h2 h3 h4 h5 h6 h7 h8 h9
          refine ite_yes (by rfl) ?_
          go_simp
          refine (Env.call hW fun κ1 hb hz => ppush_any (5, Ft.widthOf k.size, ga) HVT.out hb).mono ?_
          rintro r w3 ⟨rfl, he⟩
          exact hK _ _ _ rfl trivial he rfl
        trivial
  refine ⟨?_, ?_⟩
  · refine wordP_read 0 0 (by kernel_rfl) (by kernel_rfl) (by kernel_rfl) ?_
    intro y w2 p hlo hhi hW hD K hK
    have d10 := Env.cell hW HM1.out 0 _ rfl
    clear hD
    generalize hAA : fillL y _ _ = AA at hK ⊢
    simp only [fillL, Act.put, List.setIfInBounds_toArray, List.set_cons_zero, List.set_cons_succ, List.getD_cons_zero, List.getD_cons_succ, IsP] at hAA
    subst hAA
    simp only [List.getD_cons_zero, List.getD_cons_succ, IsP] at hK
    refine ite_yes (by rfl) ?_
    go_simp
    exact hK _ _ _ rfl (Grew.refl _) rfl
  refine ⟨?_, ?_⟩
  · refine wordP_read 0 0 (by kernel_rfl) (by kernel_rfl) (by kernel_rfl) ?_
    intro y w2 p hlo hhi hW hD K hK
    simp only [depsP, List.getD_cons_zero, List.getD_cons_succ, IsP] at hD
    have h0 := hD.1
    clear hD
    generalize hAA : fillL y _ _ = AA at hK ⊢
    simp only [fillL, Act.put, List.setIfInBounds_toArray, List.set_cons_zero, List.set_cons_succ, List.getD_cons_zero, List.getD_cons_succ, IsP] at hAA
    subst hAA
    simp only [List.getD_cons_zero, List.getD_cons_succ, IsP] at hK
    simp only [h0] at hK ⊢
    clear h0
    refine ite_yes (by rfl) ?_
    go_simp
    exact hK _ _ _ rfl (Grew.refl _) rfl
  refine ⟨?_, ?_⟩
  · refine wordP_read 0 0 (by kernel_rfl) (by kernel_rfl) (by kernel_rfl) ?_
    intro y w2 p hlo hhi hW hD K hK
    simp only [depsP, List.getD_cons_zero, List.getD_cons_succ, IsP] at hD
    have h0 := hD.1
    have h1 := hD.2.1
    clear hD
    generalize hAA : fillL y _ _ = AA at hK ⊢
    simp only [fillL, Act.put, List.setIfInBounds_toArray, List.set_cons_zero, List.set_cons_succ, List.getD_cons_zero, List.getD_cons_succ, IsP] at hAA
    subst hAA
    simp only [List.getD_cons_zero, List.getD_cons_succ, IsP] at hK
    simp only [h0, h1] at hK ⊢
    clear h0 h1
    refine ite_yes (by rfl) ?_
    go_simp
    exact hK _ _ _ rfl (Grew.refl _) rfl
  refine ⟨?_, ?_⟩
  · refine wordP_read 0 0 (by kernel_rfl) (by kernel_rfl) (by kernel_rfl) ?_
    intro y w2 p hlo hhi hW hD K hK
    simp only [depsP, List.getD_cons_zero, List.getD_cons_succ, IsP] at hD
    have h0 := hD.1
    have h1 := hD.2.1
    have h2 := hD.2.2.1
    clear hD
    generalize hAA : fillL y _ _ = AA at hK ⊢
    simp only [fillL, Act.put, List.setIfInBounds_toArray, List.set_cons_zero, List.set_cons_succ, List.getD_cons_zero, List.getD_cons_succ, IsP] at hAA
    subst hAA
    simp only [List.getD_cons_zero, List.getD_cons_succ, IsP] at hK
    simp only [h0, h1, h2] at hK ⊢
    clear h0 h1 h2
    refine ite_yes (by rfl) ?_
    go_simp
    exact hK _ _ _ rfl (Grew.refl _) rfl
  refine ⟨?_, ?_⟩
  · refine wordP_read 0 0 (by kernel_rfl) (by kernel_rfl) (by kernel_rfl) ?_
    intro y w2 p hlo hhi hW hD K hK
    have dd := Env.at5 hW
    simp only [depsP, List.getD_cons_zero, List.getD_cons_succ, IsP] at hD
    have h0 := hD.1
    have h1 := hD.2.1
    have h2 := hD.2.2.1
    have h3 := hD.2.2.2.1
    clear hD
    generalize hAA : fillL y _ _ = AA at hK ⊢
    simp only [fillL, Act.put, List.setIfInBounds_toArray, List.set_cons_zero, List.set_cons_succ, List.getD_cons_zero, List.getD_cons_succ, IsP] at hAA
    subst hAA
    simp only [List.getD_cons_zero, List.getD_cons_succ, IsP] at hK
    simp only [h0, h1, h2, h3] at hK ⊢
    clear h0 h1 h2 h3
    refine ite_yes (by rfl) ?_
    go_simp
    exact hK _ _ _ rfl (Grew.refl _) rfl
  refine ⟨?_, ?_⟩
  · refine wordP_read 0 0 (by kernel_rfl) (by kernel_rfl) (by kernel_rfl) ?_
    intro y w2 p hlo hhi hW hD K hK
    have d20 := Env.cell hW HM2.out 0 _ rfl
    clear hD
    generalize hAA : fillL y _ _ = AA at hK ⊢
    simp only [fillL, Act.put, List.setIfInBounds_toArray, List.set_cons_zero, List.set_cons_succ, List.getD_cons_zero, List.getD_cons_succ, IsP] at hAA
    subst hAA
    simp only [List.getD_cons_zero, List.getD_cons_succ, IsP] at hK
    refine ite_yes (by rfl) ?_
    go_simp
    exact hK _ _ _ rfl (Grew.refl _) rfl
  refine ⟨?_, ?_⟩
  · refine wordP_read 0 0 (by kernel_rfl) (by kernel_rfl) (by kernel_rfl) ?_
    intro y w2 p hlo hhi hW hD K hK
    simp only [depsP, List.getD_cons_zero, List.getD_cons_succ, IsP] at hD
    have h0 := hD.1
    have h1 := hD.2.1
    have h2 := hD.2.2.1
    have h3 := hD.2.2.2.1
    have h4 := hD.2.2.2.2.1
    have h5 := hD.2.2.2.2.2.1
    clear hD
    generalize hAA : fillL y _ _ = AA at hK ⊢
    simp only [fillL, Act.put, List.setIfInBounds_toArray, List.set_cons_zero, List.set_cons_succ, List.getD_cons_zero, List.getD_cons_succ, IsP] at hAA
    subst hAA
    simp only [List.getD_cons_zero, List.getD_cons_succ, IsP] at hK
    simp only [h0, h1, h2, h3, h4, h5] at hK ⊢
    clear h0 h1 h2 h3 h4 h5
    refine ite_yes (by rfl) ?_
    go_simp
    obtain rfl : p = 0 := by omega
    refine (HGE.out w2 hW).mono ?_
    rintro r w3 ⟨rfl, hg3⟩
    exact hK _ _ _ rfl hg3 rfl
  refine ⟨?_, ?_⟩
  · refine wordP_read 0 0 (by kernel_rfl) (by kernel_rfl) (by kernel_rfl) ?_
    intro y w2 p hlo hhi hW hD K hK
    simp only [depsP, List.getD_cons_zero, List.getD_cons_succ, IsP] at hD
    have h0 := hD.1
    have h1 := hD.2.1
    have h2 := hD.2.2.1
    have h3 := hD.2.2.2.1
    have h4 := hD.2.2.2.2.1
    have h5 := hD.2.2.2.2.2.1
    have h6 := hD.2.2.2.2.2.2.1
    clear hD
    generalize hAA : fillL y _ _ = AA at hK ⊢
    simp only [fillL, Act.put, List.setIfInBounds_toArray, List.set_cons_zero, List.set_cons_succ, List.getD_cons_zero, List.getD_cons_succ, IsP] at hAA
    subst hAA
    simp only [List.getD_cons_zero, List.getD_cons_succ, IsP] at hK
    simp only [h0, h1, h2, h3, h4, h5, h6] at hK ⊢
    clear h0 h1 h2 h3 h4 h5 h6
    refine ite_yes (by rfl) ?_
    go_simp
    exact hK _ _ _ rfl (Grew.refl _) rfl
  refine ⟨?_, ?_⟩
  · refine wordP_read 0 0 (by kernel_rfl) (by kernel_rfl) (by kernel_rfl) ?_
    intro y w2 p hlo hhi hW hD K hK
    simp only [depsP, List.getD_cons_zero, List.getD_cons_succ, IsP] at hD
    have h0 := hD.1
    have h1 := hD.2.1
    have h2 := hD.2.2.1
    have h3 := hD.2.2.2.1
    have h4 := hD.2.2.2.2.1
    have h5 := hD.2.2.2.2.2.1
    have h6 := hD.2.2.2.2.2.2.1
    have h7 := hD.2.2.2.2.2.2.2.1
    clear hD
    generalize hAA : fillL y _ _ = AA at hK ⊢
    simp only [fillL, Act.put, List.setIfInBounds_toArray, List.set_cons_zero, List.set_cons_succ, List.getD_cons_zero, List.getD_cons_succ, IsP] at hAA
    subst hAA
    simp only [List.getD_cons_zero, List.getD_cons_succ, IsP] at hK
    simp only [h0, h1, h2, h3, h4, h5, h6, h7] at hK ⊢
    clear h0 h1 h2 h3 h4 h5 h6 h7
    refine ite_yes (by rfl) ?_
    go_simp
    exact hK _ _ _ rfl (Grew.refl _) rfl
  refine ⟨?_, ?_⟩
  · refine wordP_read 0 0 (by kernel_rfl) (by kernel_rfl) (by kernel_rfl) ?_
    intro y w2 p hlo hhi hW hD K hK
    simp only [depsP, List.getD_cons_zero, List.getD_cons_succ, IsP] at hD
    have h0 := hD.1
    have h1 := hD.2.1
    have h2 := hD.2.2.1
    have h3 := hD.2.2.2.1
    have h4 := hD.2.2.2.2.1
    have h5 := hD.2.2.2.2.2.1
    have h6 := hD.2.2.2.2.2.2.1
    have h7 := hD.2.2.2.2.2.2.2.1
    clear hD
    generalize hAA : fillL y _ _ = AA at hK ⊢
    simp only [fillL, Act.put, List.setIfInBounds_toArray, List.set_cons_zero, List.set_cons_succ, List.getD_cons_zero, List.getD_cons_succ, IsP] at hAA
    subst hAA
    simp only [List.getD_cons_zero, List.getD_cons_succ, IsP] at hK
    simp only [h0, h1, h2, h3, h4, h5, h6, h7] at hK ⊢
    clear h0 h1 h2 h3 h4 h5 h6 h7
    refine ite_yes (by rfl) ?_
    go_simp
    exact hK _ _ _ rfl (Grew.refl _) rfl
  refine ⟨?_, ?_⟩
  · refine wordP_read 0 0 (by kernel_rfl) (by kernel_rfl) (by kernel_rfl) ?_
    intro y w2 p hlo hhi hW hD K hK
    simp only [depsP, List.getD_cons_zero, List.getD_cons_succ, IsP] at hD
    have h0 := hD.1
    have h1 := hD.2.1
    have h2 := hD.2.2.1
    have h3 := hD.2.2.2.1
    have h4 := hD.2.2.2.2.1
    have h5 := hD.2.2.2.2.2.1
    have h6 := hD.2.2.2.2.2.2.1
    have h7 := hD.2.2.2.2.2.2.2.1
    have h8 := hD.2.2.2.2.2.2.2.2.1
    clear hD
    generalize hAA : fillL y _ _ = AA at hK ⊢
    simp only [fillL, Act.put, List.setIfInBounds_toArray, List.set_cons_zero, List.set_cons_succ, List.getD_cons_zero, List.getD_cons_succ, IsP] at hAA
    subst hAA
    simp only [List.getD_cons_zero, List.getD_cons_succ, IsP] at hK
    simp only [h0, h1, h2, h3, h4, h5, h6, h7, h8] at hK ⊢
    clear h0 h1 h2 h3 h4 h5 h6 h7 h8
    refine ite_yes (by rfl) ?_
    go_simp
    exact hK _ _ _ rfl (Grew.refl _) rfl
  refine ⟨?_, ?_⟩
  · refine wordP_read 0 0 (by kernel_rfl) (by kernel_rfl) (by kernel_rfl) ?_
    intro y w2 p hlo hhi hW hD K hK
    simp only [depsP, List.getD_cons_zero, List.getD_cons_succ, IsP] at hD
    have h0 := hD.1
    have h1 := hD.2.1
    have h2 := hD.2.2.1
    have h3 := hD.2.2.2.1
    have h4 := hD.2.2.2.2.1
    have h5 := hD.2.2.2.2.2.1
    have h6 := hD.2.2.2.2.2.2.1
    have h7 := hD.2.2.2.2.2.2.2.1
    have h8 := hD.2.2.2.2.2.2.2.2.1
    have h9 := hD.2.2.2.2.2.2.2.2.2.1
    have h10 := hD.2.2.2.2.2.2.2.2.2.2.1
    clear hD
    generalize hAA : fillL y _ _ = AA at hK ⊢
    simp only [fillL, Act.put, List.setIfInBounds_toArray, List.set_cons_zero, List.set_cons_succ, List.getD_cons_zero, List.getD_cons_succ, IsP] at hAA
    subst hAA
    simp only [List.getD_cons_zero, List.getD_cons_succ, IsP] at hK
    simp only [h0, h1, h2, h3, h4, h5, h6, h7, h8, h9, h10] at hK ⊢
    clear h0 h1 h2 h3 h4 h5 h6 h7 h8 h9 h10
    refine ite_yes (by rfl) ?_
    go_simp
    exact hK _ _ _ rfl (Grew.refl _) rfl
  trivial
theorem bstr_any {B : Nat} {q : Ptrs} {most flags : Int} {κ : Nat → Nat} {x : BS} {w : World} (k : ByteArray) (hk : k.size ≤ 1048576) (hg : x.Good) (h : Bd B q most flags κ x w) : Calls Tryz.prog 15 #[bptr q.p, .string k] w fun r w' => r = .returned (.tuple #[]) ∧ TurnX B q most flags κ (x.str most (onF flags 2) k) w w' := by
  have HH := Lib.hid (And.intro hk hg)
  have HE : Hid (Env B q most flags w κ [(w.heap.size + 1, Obj.cells #[.string k] 9 (0, 0)), (w.heap.size, Obj.cells #[bptr q.p] 23 (0, 0))] x ((w.alloc (.cells #[bptr q.p] 23)).alloc (.cells #[.string k] 9))) := by
    have hh := ((Env.start h).add (.cells #[bptr q.p] 23)).add (.cells #[.string k] 9)
    simp only [World.size_alloc, Nat.add_assoc, Nat.reduceAdd] at hh
    exact hh
  clear h hk hg
  go_enter Tryz.func15, Tryz.ntmps15
  go_wp2_with fail
  refine (HE.out.call' fun κ1 hb he => unless_any hb _ _ (x.str most (onF flags 2) k) (fun hx => by unfold BS.str; rw [if_neg hx]) (fun _ => enters_of Tryz.func54 (by kernel_rfl) rfl _ _) (fun hx => str1_any _ _ k HH.out.1 HH.out.2 hx he)).mono ?_
  rintro r w5 ⟨rfl, he⟩
  have HT := Lib.hid he
  clear he
  go_wp2
  go_end0
  exact ⟨rfl, HT.out.turn⟩
end Go.Proofs.YtjnpcddbgfmpcaaGreat

/-
  The builder in memory: values made from lists of numbers and of truths (mapped).
-/
namespace Go.Proofs.YtjnpcddbgfmpcaaGreat
open Go Go.ChangeShapes Go.WideShapes Go.ChangeAt Go.RowKit Go.Joins Go.Deep
open Go.Proofs.YtjnpcddbgfmpcaaGreat.Ft (V3 vV okV ValsAt inlineB legalB packF codeF typedF allF)
set_option linter.unusedVariables false
set_option linter.unusedSimpArgs false
def CellsAt {α : Type} (f : α → Value) (w : World) (v : Value) (l : List α) : Prop :=
  ∃ a c, v = .slice a l.length c ∧ ∀ (i : Nat) (x : α), l[i]? = some x → ∃ b off, a = some ⟨b, off, none⟩ ∧ w.cell? ⟨b, off + i, none⟩ = some (f x)
theorem CellsAt.grew {α : Type} {f : α → Value} {w w' : World} {v : Value} {l : List α} (h : CellsAt f w v l) (hg : Grew w w') : CellsAt f w' v l := by
  obtain ⟨a, c, h1, h2⟩ := h
  refine ⟨a, c, h1, fun i x hx => ?_⟩
  obtain ⟨b, off, h3, h4⟩ := h2 i x hx
  exact ⟨b, off, h3, hg.cell h4⟩
set_option maxRecDepth 100000 in
theorem mapI_any (l : List Int) (lv : Value) (w : World) (hp : CellsAt (fun x => .int .i64 x) w lv l) (hb : ∀ x ∈ l, -9223372036854775808 ≤ x ∧ x ≤ 9223372036854775807) (hl : l.length ≤ 1048576) : Calls Tryz.prog 96 #[.func (.func 78) #[] #[], lv] w fun r w' => ∃ v', r = .returned v' ∧ OwnVals w' w.heap.size v' (l.map numV) ∧ Grew w w' := by
  obtain ⟨ad, c, rfl, hcell⟩ := hp
  have HC := Lib.hid hcell
  have HB := Lib.hid hb
  have HL := Lib.hid hl
  clear hcell hb
  have hll : l.length ≤ 9223372036854775807 := by omega
  go_enter Tryz.func96, Tryz.ntmps96
  go_wp2_with fail
  go_loopw [4, 9] (fun v i wr => ∃ k : Nat, k ≤ l.length ∧ i = .int .i64 k ∧ Hid (OwnVals wr w.heap.size v ((l.take k).map numV) ∧ Grew w wr)) (fun _ i _ => l.length - (intOf i).toNat)
  case atStart => exact ⟨0, Nat.zero_le _, rfl, by
    show _ ∧ _
    exact ⟨World.ownsRow_nil _ _ _ _, Grew.refl _⟩⟩
  case round =>
    obtain ⟨k, hk, rfl, HW⟩ := hrel
    by_cases hlt : k < l.length
    · obtain ⟨x, hx⟩ : ∃ x, l[k]? = some x := ⟨_, List.getElem?_eq_getElem hlt⟩
      have HSN : Hid ((l.take (k + 1)).map numV = (l.take k).map numV ++ [numV x]) := by show _ = _; rw [List.take_add_one, hx]; simp
      have HX := Lib.hid (HB.out x (List.mem_of_getElem? hx))
      obtain ⟨b, off, rfl, c0⟩ := HC.out k x hx
      clear hx
      have d0 := HW.out.2.cell c0
      clear c0
      go_wp2_with fail
      refine (bnum_any x wr HX.out.1 HX.out.2).mono ?_
      rintro r w2 ⟨rfl, hg⟩
      have HO := Lib.hid (show OwnVals w2 w.heap.size u4 ((l.take k).map numV) from own_grew HW.out.1 hg)
      have HG := Lib.hid (HW.out.2.trans hg)
      obtain ⟨va, vc, rfl, hvc⟩ := own_form HO.out
      have HLN : Hid (((l.take k).map numV).length < l.length) := by show _ < _; rw [List.length_map, List.length_take]; omega
      generalize (l.take k).map numV = L at *
      generalize numV x = X at *
      obtain ⟨X0, X1, X2⟩ := X
      clear hg HW
      have HO2 : Hid (∀ o, OwnVals (w2.alloc o) w.heap.size (.slice va L.length vc) L) := fun o => own_grew HO.out ((Grew.refl _).alloc o)
      go_wp2_with (at_builtin; refine wpList_appendV rfl _ _ rfl w.heap.size (.slice va L.length vc) L rfl (HO2.out _) _ [(X0, X1, X2)] rfl (vals_new _ _) (fun c h => by cases h) (by have := HLN.out; have := HL.out; simp; omega) (Nat.le_trans HG.out.size (by simp)) ?_; intro v' w3 hown hgr hqq; obtain ⟨va2, vc2, rfl, _⟩ := own_form hown; have HG3 := Lib.hid (And.intro hown (grew_own (HO2.out _) (HG.out.alloc _) hgr)); clear hown hgr hqq)
      go_roundw
      case rel =>
        refine ⟨k + 1, by omega, by go_num, ?_⟩
        show _ ∧ _
        rw [HSN.out]
        have hh := HG3.out
        rw [List.length_append] at hh
        exact hh
      case measure => simp [intOf]; omega
    · have ek : k = l.length := by omega
      subst ek
      have hw := HW.out
      have HE : Hid (OwnVals wr w.heap.size u4 (l.map numV) ∧ Grew w wr) := by
        show _ ∧ _
        rw [List.take_length] at hw
        exact hw
      clear hw HW
      go_wp2
      go_ret
      exact ⟨_, rfl, HE.out⟩
set_option maxRecDepth 100000 in
theorem mapU_any (l : List Int) (lv : Value) (w : World) (hp : CellsAt (fun x => .int .u64 x) w lv l) (hb : ∀ x ∈ l, 0 ≤ x ∧ x ≤ 18446744073709551615) (hl : l.length ≤ 1048576) : Calls Tryz.prog 97 #[.func (.func 79) #[] #[], lv] w fun r w' => ∃ v', r = .returned v' ∧ OwnVals w' w.heap.size v' (l.map unsV) ∧ Grew w w' := by
  obtain ⟨ad, c, rfl, hcell⟩ := hp
  have HC := Lib.hid hcell
  have HB := Lib.hid hb
  have HL := Lib.hid hl
  clear hcell hb
  have hll : l.length ≤ 9223372036854775807 := by omega
  go_enter Tryz.func97, Tryz.ntmps97
  go_wp2_with fail
  go_loopw [4, 9] (fun v i wr => ∃ k : Nat, k ≤ l.length ∧ i = .int .i64 k ∧ Hid (OwnVals wr w.heap.size v ((l.take k).map unsV) ∧ Grew w wr)) (fun _ i _ => l.length - (intOf i).toNat)
  case atStart => exact ⟨0, Nat.zero_le _, rfl, by
    show _ ∧ _
    exact ⟨World.ownsRow_nil _ _ _ _, Grew.refl _⟩⟩
  case round =>
    obtain ⟨k, hk, rfl, HW⟩ := hrel
    by_cases hlt : k < l.length
    · obtain ⟨x, hx⟩ : ∃ x, l[k]? = some x := ⟨_, List.getElem?_eq_getElem hlt⟩
      have HSN : Hid ((l.take (k + 1)).map unsV = (l.take k).map unsV ++ [unsV x]) := by show _ = _; rw [List.take_add_one, hx]; simp
      have HX := Lib.hid (HB.out x (List.mem_of_getElem? hx))
      obtain ⟨b, off, rfl, c0⟩ := HC.out k x hx
      clear hx
      have d0 := HW.out.2.cell c0
      clear c0
      go_wp2_with fail
      refine (buns_any x wr HX.out.1 HX.out.2).mono ?_
      rintro r w2 ⟨rfl, hg⟩
      have HO := Lib.hid (show OwnVals w2 w.heap.size u4 ((l.take k).map unsV) from own_grew HW.out.1 hg)
      have HG := Lib.hid (HW.out.2.trans hg)
      obtain ⟨va, vc, rfl, hvc⟩ := own_form HO.out
      have HLN : Hid (((l.take k).map unsV).length < l.length) := by show _ < _; rw [List.length_map, List.length_take]; omega
      generalize (l.take k).map unsV = L at *
      generalize unsV x = X at *
      obtain ⟨X0, X1, X2⟩ := X
      clear hg HW
      have HO2 : Hid (∀ o, OwnVals (w2.alloc o) w.heap.size (.slice va L.length vc) L) := fun o => own_grew HO.out ((Grew.refl _).alloc o)
      go_wp2_with (at_builtin; refine wpList_appendV rfl _ _ rfl w.heap.size (.slice va L.length vc) L rfl (HO2.out _) _ [(X0, X1, X2)] rfl (vals_new _ _) (fun c h => by cases h) (by have := HLN.out; have := HL.out; simp; omega) (Nat.le_trans HG.out.size (by simp)) ?_; intro v' w3 hown hgr hqq; obtain ⟨va2, vc2, rfl, _⟩ := own_form hown; have HG3 := Lib.hid (And.intro hown (grew_own (HO2.out _) (HG.out.alloc _) hgr)); clear hown hgr hqq)
      go_roundw
      case rel =>
        refine ⟨k + 1, by omega, by go_num, ?_⟩
        show _ ∧ _
        rw [HSN.out]
        have hh := HG3.out
        rw [List.length_append] at hh
        exact hh
      case measure => simp [intOf]; omega
    · have ek : k = l.length := by omega
      subst ek
      have hw := HW.out
      have HE : Hid (OwnVals wr w.heap.size u4 (l.map unsV) ∧ Grew w wr) := by
        show _ ∧ _
        rw [List.take_length] at hw
        exact hw
      clear hw HW
      go_wp2
      go_ret
      exact ⟨_, rfl, HE.out⟩
set_option maxRecDepth 100000 in
theorem mapB_any (l : List Bool) (lv : Value) (w : World) (hp : CellsAt (fun x => .bool x) w lv l) (hb : ∀ x ∈ l, True) (hl : l.length ≤ 1048576) : Calls Tryz.prog 98 #[.func (.func 80) #[] #[], lv] w fun r w' => ∃ v', r = .returned v' ∧ OwnVals w' w.heap.size v' (l.map truthV) ∧ Grew w w' := by
  obtain ⟨ad, c, rfl, hcell⟩ := hp
  have HC := Lib.hid hcell
  have HB := Lib.hid hb
  have HL := Lib.hid hl
  clear hcell hb
  have hll : l.length ≤ 9223372036854775807 := by omega
  go_enter Tryz.func98, Tryz.ntmps98
  go_wp2_with fail
  go_loopw [4, 9] (fun v i wr => ∃ k : Nat, k ≤ l.length ∧ i = .int .i64 k ∧ Hid (OwnVals wr w.heap.size v ((l.take k).map truthV) ∧ Grew w wr)) (fun _ i _ => l.length - (intOf i).toNat)
  case atStart => exact ⟨0, Nat.zero_le _, rfl, by
    show _ ∧ _
    exact ⟨World.ownsRow_nil _ _ _ _, Grew.refl _⟩⟩
  case round =>
    obtain ⟨k, hk, rfl, HW⟩ := hrel
    by_cases hlt : k < l.length
    · obtain ⟨x, hx⟩ : ∃ x, l[k]? = some x := ⟨_, List.getElem?_eq_getElem hlt⟩
      have HSN : Hid ((l.take (k + 1)).map truthV = (l.take k).map truthV ++ [truthV x]) := by show _ = _; rw [List.take_add_one, hx]; simp
      have HX := Lib.hid (HB.out x (List.mem_of_getElem? hx))
      obtain ⟨b, off, rfl, c0⟩ := HC.out k x hx
      clear hx
      have d0 := HW.out.2.cell c0
      clear c0
      go_wp2_with fail
      refine (btruth_any x wr).mono ?_
      rintro r w2 ⟨rfl, hg⟩
      have HO := Lib.hid (show OwnVals w2 w.heap.size u4 ((l.take k).map truthV) from own_grew HW.out.1 hg)
      have HG := Lib.hid (HW.out.2.trans hg)
      obtain ⟨va, vc, rfl, hvc⟩ := own_form HO.out
      have HLN : Hid (((l.take k).map truthV).length < l.length) := by show _ < _; rw [List.length_map, List.length_take]; omega
      generalize (l.take k).map truthV = L at *
      generalize truthV x = X at *
      obtain ⟨X0, X1, X2⟩ := X
      clear hg HW
      have HO2 : Hid (∀ o, OwnVals (w2.alloc o) w.heap.size (.slice va L.length vc) L) := fun o => own_grew HO.out ((Grew.refl _).alloc o)
      go_wp2_with (at_builtin; refine wpList_appendV rfl _ _ rfl w.heap.size (.slice va L.length vc) L rfl (HO2.out _) _ [(X0, X1, X2)] rfl (vals_new _ _) (fun c h => by cases h) (by have := HLN.out; have := HL.out; simp; omega) (Nat.le_trans HG.out.size (by simp)) ?_; intro v' w3 hown hgr hqq; obtain ⟨va2, vc2, rfl, _⟩ := own_form hown; have HG3 := Lib.hid (And.intro hown (grew_own (HO2.out _) (HG.out.alloc _) hgr)); clear hown hgr hqq)
      go_roundw
      case rel =>
        refine ⟨k + 1, by omega, by go_num, ?_⟩
        show _ ∧ _
        rw [HSN.out]
        have hh := HG3.out
        rw [List.length_append] at hh
        exact hh
      case measure => simp [intOf]; omega
    · have ek : k = l.length := by omega
      subst ek
      have hw := HW.out
      have HE : Hid (OwnVals wr w.heap.size u4 (l.map truthV) ∧ Grew w wr) := by
        show _ ∧ _
        rw [List.take_length] at hw
        exact hw
      clear hw HW
      go_wp2
      go_ret
      exact ⟨_, rfl, HE.out⟩
end Go.Proofs.YtjnpcddbgfmpcaaGreat

/-
  The builder in memory: vectors. Conditions: the builder lies in memory, the list's row is none of its blocks.
-/
namespace Go.Proofs.YtjnpcddbgfmpcaaGreat
open Go Go.ChangeShapes Go.WideShapes Go.ChangeAt Go.RowKit Go.Joins Go.Deep
open Go.Proofs.YtjnpcddbgfmpcaaGreat.Ft (V3 vV okV ValsAt inlineB legalB packF codeF typedF allF)
set_option linter.unusedVariables false
set_option linter.unusedSimpArgs false
def VForm (elem many : Int) (l : List V3) : Prop := (elem = -1 ∧ many = 0) ∨ (elem ≠ -1 ∧ many = 0 ∧ (typedF elem 0).2 = true) ∨ (elem ≠ -1 ∧ many = (l.length : Int) ∧ 0 < l.length ∧ (typedF elem (l.length : Int)).2 = true)
def Apart0 (κ : Nat → Nat) (w : World) (lv : Value) : Prop := ∀ ad n c, lv = .slice (some ad) n c → ad.block < w.heap.size ∧ κ ad.block = 0
theorem putF_le {most : Int} {T : V3 → Int} {len tagged : Bool} {kind e0 : Int} {l : List V3} {s : St} (h : (s.1.length : Int) ≤ most) : ((putF most T len tagged kind e0 l s).2.1.length : Int) ≤ most := by
  unfold putF
  dsimp only
  have h1 : ∀ x, ((alignS most x s).1.length : Int) ≤ most := fun x => alignS_le h
  have h2 : ∀ x, (((if len then numS most x l.length (alignS most x s) else alignS most x s)).1.length : Int) ≤ most := fun x => by
    split
    · exact numS_le (h1 x)
    · exact h1 x
  have h3 := fun x => elemsS_le (x := x) l (h2 x)
  have h4 : ∀ x, (((if tagged then tagsS most x l (elemsS most x l (if len then numS most x l.length (alignS most x s) else alignS most x s)) else elemsS most x l (if len then numS most x l.length (alignS most x s) else alignS most x s))).1.length : Int) ≤ most := fun x => by
    split
    · exact tagsS_le l (h3 x)
    · exact h3 x
  by_cases ha : eachL T e0 l ≠ 0
  · rw [if_pos ha]; exact h
  rw [if_neg ha]
  generalize allF l (0, 0, 0) s.1.length (if len = true then 1 else 0) = X
  by_cases hb : X = 0
  · rw [if_pos hb]; exact h
  rw [if_neg hb]
  have h5 := h4 X
  generalize (if tagged = true then tagsS most X l (elemsS most X l (if len = true then numS most X l.length (alignS most X s) else alignS most X s)) else elemsS most X l (if len = true then numS most X l.length (alignS most X s) else alignS most X s)) = s4 at h5 ⊢
  by_cases hc : s4.2 ≠ 0
  · rw [if_pos hc]; exact h5
  · rw [if_neg hc]; exact h5
theorem putF_okV {most : Int} {T : V3 → Int} {len tagged : Bool} {kind e0 : Int} {l : List V3} {s : St} (h : (s.1.length : Int) ≤ most) (hm : most ≤ 1048576) : okV (putF most T len tagged kind e0 l s).1.1 := by
  unfold putF
  dsimp only
  have h1 : ∀ x, ((alignS most x s).1.length : Int) ≤ most := fun x => alignS_le h
  have h2 : ∀ x, (((if len then numS most x l.length (alignS most x s) else alignS most x s)).1.length : Int) ≤ most := fun x => by
    split
    · exact numS_le (h1 x)
    · exact h1 x
  by_cases ha : eachL T e0 l ≠ 0
  · rw [if_pos ha]; exact ok0
  rw [if_neg ha]
  generalize allF l (0, 0, 0) s.1.length (if len = true then 1 else 0) = X
  by_cases hb : X = 0
  · rw [if_pos hb]; exact ok0
  rw [if_neg hb]
  have h5 := h2 X
  generalize (if tagged = true then tagsS most X l (elemsS most X l (if len = true then numS most X l.length (alignS most X s) else alignS most X s)) else elemsS most X l (if len = true then numS most X l.length (alignS most X s) else alignS most X s)) = s4
  by_cases hc : s4.2 ≠ 0
  · rw [if_pos hc]; exact ok0
  · rw [if_neg hc]
    refine ⟨Int.natCast_nonneg _, ?_⟩
    show (List.length _ : Int) ≤ _
    omega
theorem vputF_le {most elem many : Int} {l : List V3} {s : St} (h : (s.1.length : Int) ≤ most) : ((vputF most elem many l s).2.1.length : Int) ≤ most := by
  unfold vputF
  split
  · exact putF_le h
  · exact putF_le h
theorem vputF_okV {most elem many : Int} {l : List V3} {s : St} (h : (s.1.length : Int) ≤ most) (hm : most ≤ 1048576) : okV (vputF most elem many l s).1.1 := by
  unfold vputF
  split
  · exact putF_okV h hm
  · exact putF_okV h hm
section
variable {B : Nat} {q : Ptrs} {most flags : Int} {κ κ0 : Nat → Nat} {x y : BS} {w w' w0 : World} {Kp : List (Nat × Obj)}
theorem BufAt.own_one {w : World} {p : Nat} {o o' : Option Nat} {l l' : List UInt8} {m m' e e' : Int} (h : BufAt 0 w p o l m e) (k : BufAt 0 w p o' l' m' e') : o' = o := by
  obtain ⟨_, v, h1, _, h3, _⟩ := h
  obtain ⟨_, v', k1, _, k3, _⟩ := k
  rw [h1] at k1
  injection k1 with k1
  injection k1 with k1
  have : v = v' := Option.some.inj (by exact congrArg (fun a : Array Value => a[1]?) k1)
  subst this
  exact k3.symm.trans h3
theorem Bd.buf_callsA (h : Bd B q most flags κ x w) {f : Nat} {args : Array Value} {R : Ending → Prop} {s' : St} (hl : (s'.1.length : Int) ≤ most)
    (hc : ∀ o, BufAt 0 w q.b o x.s.1 most x.s.2 → (∀ k, Own2 q.b o k → κ k = 2) → Calls Tryz.prog f args w fun r w' => R r ∧ TurnB 0 w w' q.b o most s') :
    Calls Tryz.prog f args w fun r w' => R r ∧ ∀ κ1, Bd B q most flags κ1 x w → TurnX B q most flags κ1 { x with s := s' } w w' := by
  obtain ⟨h0, o, h1, h2⟩ := h.buf
  refine (hc o h1 (fun k hk => hk.elim (fun e => e ▸ h0) (fun e => h2 k e.symm))).mono fun r w' hr => ⟨hr.1, fun κ1 g => ?_⟩
  obtain ⟨g0, o1, g1, g2⟩ := g.buf
  obtain rfl := h1.own_one g1
  obtain ⟨S', k1, k2, k3⟩ := BufS.turn (S := fun k => κ1 k = 2) g0 g1 g2 hr.2
  exact g.buf_step hl k1 k2 k3
theorem vput_any {elem many : Int} {lv : Value} {l : List V3} (h : Bd B q most flags κ x w) (hF : VForm elem many l) (hv : ValsAt w lv l) (ha : Apart0 κ w lv) (hlen : l.length ≤ 1048576) (hok : ∀ v ∈ l, okV v) (hs : x.s.2 = 0) :
    Calls Tryz.prog 115 #[bptr q.b, .int .i64 elem, .int .i64 many, lv] w fun r w' => r = .returned (putV (vputF most elem many l x.s).1) ∧ ∀ κ1, Bd B q most flags κ1 x w → TurnX B q most flags κ1 { x with s := (vputF most elem many l x.s).2 } w w' := by
  refine h.buf_callsA (vputF_le h.ok.len) fun o ho hκ => ?_
  have hap : ∀ ad n c, lv = .slice (some ad) n c → ad.block < w.heap.size ∧ ¬ Own2 q.b o ad.block := fun ad n c e => ⟨(ha ad n c e).1, fun hk => by have h1 := hκ _ hk; have h2 := (ha ad n c e).2; omega⟩
  unfold vputF
  rcases hF with ⟨rfl, rfl⟩ | ⟨hne, rfl, ht⟩ | ⟨hne, rfl, hpos, ht⟩
  · rw [if_pos rfl]
    exact put_un x.s lv l ho (Nat.zero_le _) h.ok.len h.ok.m1 hv hlen hok hap hs
  · rw [if_neg hne]
    exact put_ty0 elem _ (Prod.ext rfl ht) hne x.s lv l ho (Nat.zero_le _) h.ok.len h.ok.m1 hv hlen hok hap hs
  · rw [if_neg hne, decide_eq_false (by omega)]
    exact put_fix elem _ x.s lv l (Prod.ext rfl ht) hpos ho (Nat.zero_le _) h.ok.len h.ok.m1 hv hlen hok hap hs
def AllE (B : Nat) (q : Ptrs) (most flags : Int) (w0 : World) (κ0 : Nat → Nat) (x y : BS) (w w' : World) : Prop := ∀ Kp, Env B q most flags w0 κ0 Kp x w → Env B q most flags w0 κ0 Kp y w'
theorem allE_of (h : ∀ κ1, Bd B q most flags κ1 x w → TurnX B q most flags κ1 y w w') : AllE B q most flags w0 κ0 x y w w' := by
  rintro Kp ⟨κ, h1, h2, h3⟩
  obtain ⟨κ1, k1, k2⟩ := h κ h1
  exact ⟨κ1, k1, h2.trans k2, fun z hz => ⟨k2.1.heap (h3 z hz).1 (fun e => e (h3 z hz).2), (k2.2 z.1 (Array.getElem?_eq_some_iff.1 (h3 z hz).1).1).trans (h3 z hz).2⟩⟩
theorem Env.vput {elem many : Int} {lv : Value} {l : List V3} (h : Env B q most flags w0 κ0 Kp x w) (hF : VForm elem many l) (hv : ValsAt w0 lv l) (ha : Apart0 κ0 w0 lv) (hlen : l.length ≤ 1048576) (hok : ∀ v ∈ l, okV v) (hs : x.s.2 = 0) :
    Calls Tryz.prog 115 #[bptr q.b, .int .i64 elem, .int .i64 many, lv] w fun r w' => r = .returned (putV (vputF most elem many l x.s).1) ∧ AllE B q most flags w0 κ0 x { x with s := (vputF most elem many l x.s).2 } w w' := by
  obtain ⟨κ, h1, h2, h3⟩ := h
  have hv2 : ValsAt w lv l := vals_moved hv h2.1 (fun ad n c e hk => hk (ha ad n c e).2)
  have ha2 : Apart0 κ w lv := fun ad n c e => ⟨Nat.lt_of_lt_of_le (ha ad n c e).1 h2.1.size, (h2.2 _ (ha ad n c e).1).trans (ha ad n c e).2⟩
  exact (vput_any h1 hF hv2 ha2 hlen hok hs).mono fun r w' hr => ⟨hr.1, allE_of hr.2⟩
def NewV (E0 E1 E2 : Nat → World → Prop) : Nat → Value → World → Prop
  | 0, v, w => ∃ n, v = .pointer (some ⟨n, 0, none⟩) ∧ E0 n w
  | 1, v, w => ∃ n, v = .pointer (some ⟨n, 0, none⟩) ∧ E1 n w
  | _ + 2, v, w => ∃ n, v = .pointer (some ⟨n, 0, none⟩) ∧ E2 n w
def NewT (j : Nat) (E0 E1 E2 : Nat → World → Prop) : Nat → (Nat → Value) → World → World → Prop
  | 0, _, w, w' => ∀ n, E0 n w → E1 n w'
  | 1, y, w, w' => ∀ n, y j = .pointer (some ⟨n, 0, none⟩) → E1 n w → E2 n w'
  | _ + 2, _, w, w' => ∀ n, E2 n w → E2 n w'
theorem NewV.st {j : Nat} {E0 E1 E2 : Nat → World → Prop} (g0 : ∀ n w w', Grew w w' → E0 n w → E0 n w') (g1 : ∀ n w w', Grew w w' → E1 n w → E1 n w') (g2 : ∀ n w w', Grew w w' → E2 n w → E2 n w') :
    (∀ p v w w', (fun (_ : Nat) w w' => Grew w w') p w w' → NewV E0 E1 E2 p v w → NewV E0 E1 E2 p v w') ∧ ∀ p v w w', (∃ y : Nat → Value, y j = v ∧ NewT j E0 E1 E2 p y w w') → NewV E0 E1 E2 p v w → NewV E0 E1 E2 (p + 1) v w' := by
  refine ⟨fun p v w w' hg h => ?_, fun p v w w' ⟨y, hy, hT⟩ h => ?_⟩
  · match p, h with
    | 0, ⟨n, e, h⟩ => exact ⟨n, e, g0 n _ _ hg h⟩
    | 1, ⟨n, e, h⟩ => exact ⟨n, e, g1 n _ _ hg h⟩
    | _ + 2, ⟨n, e, h⟩ => exact ⟨n, e, g2 n _ _ hg h⟩
  · match p, h, hT with
    | 0, ⟨n, e, h⟩, hT => exact ⟨n, e, hT n h⟩
    | 1, ⟨n, e, h⟩, hT => exact ⟨n, e, hT n (hy.trans e) h⟩
    | _ + 2, ⟨n, e, h⟩, hT => exact ⟨n, e, hT n h⟩
theorem Env.callT {f : Nat} {args : Array Value} {R : Ending → Prop} (h : Env B q most flags w0 κ0 Kp x w) (hc : ∀ κ, Bd B q most flags κ x w → Tn κ0 κ w0 w → Env B q most flags w κ Kp x w → Calls Tryz.prog f args w fun r w' => R r ∧ TurnX B q most flags κ y w w') :
    Calls Tryz.prog f args w fun r w' => R r ∧ Env B q most flags w0 κ0 Kp y w' := by
  obtain ⟨κ, h1, h2, h3⟩ := h
  refine (hc κ h1 h2 ⟨κ, h1, Tn.refl _ _, h3⟩).mono fun r w' hr => ⟨hr.1, ?_⟩
  obtain ⟨κ1, k1, k2⟩ := hr.2
  exact ⟨κ1, k1, h2.trans k2, fun z hz => ⟨k2.1.heap (h3 z hz).1 (fun e => e (h3 z hz).2), (k2.2 z.1 (Array.getElem?_eq_some_iff.1 (h3 z hz).1).1).trans (h3 z hz).2⟩⟩
theorem Apart0.tn {κ κ1 : Nat → Nat} {w w' : World} {lv : Value} (h : Apart0 κ w lv) (ht : Tn κ κ1 w w') : Apart0 κ1 w' lv := fun ad n c e => ⟨Nat.lt_of_lt_of_le (h ad n c e).1 ht.1.size, (ht.2 _ (h ad n c e).1).trans (h ad n c e).2⟩
theorem vals_tn {κ κ1 : Nat → Nat} {w w' : World} {lv : Value} {l : List V3} (hv : ValsAt w lv l) (h : Apart0 κ w lv) (ht : Tn κ κ1 w w') : ValsAt w' lv l := vals_moved hv ht.1 (fun ad n c e hk => hk (h ad n c e).2)
theorem set3 {w : World} {n : Nat} {t : TypeId} {a b c d e f : Value} (h : w.heap[n]? = some (.cells #[a, b, c] t (0, 0))) : (((w.setCell ⟨n, 0, none⟩ d).setCell ⟨n, 1, none⟩ e).setCell ⟨n, 2, none⟩ f).heap[n]? = some (.cells #[d, e, f] t (0, 0)) := by
  have h1 := heap_setCell_same w n 0 _ _ d h
  have h2 := heap_setCell_same _ n 1 _ _ e h1
  have h3 := heap_setCell_same _ n 2 _ _ f h2
  simpa using h3
theorem moved3 (w : World) (n : Nat) (d e f : Value) : Moved (fun k => k = n) w (((w.setCell ⟨n, 0, none⟩ d).setCell ⟨n, 1, none⟩ e).setCell ⟨n, 2, none⟩ f) :=
  Moved.setCell (p := ⟨n, 2, none⟩) (Moved.setCell (p := ⟨n, 1, none⟩) (Moved.setCell (p := ⟨n, 0, none⟩) (Moved.refl (fun k => k = n) _) (fun _ => rfl) _) (fun _ => rfl) _) (fun _ => rfl) _
def NewE (B : Nat) (q : Ptrs) (most flags : Int) (w0 : World) (κ0 : Nat → Nat) (Kp : List (Nat × Obj)) (o : Obj) (x : BS) (n : Nat) (w : World) : Prop := (w0.heap.size ≤ n ∧ ∀ z ∈ Kp, z.1 ≠ n) ∧ Env B q most flags w0 κ0 ((n, o) :: Kp) x w
theorem NewE.grew {o : Obj} : ∀ n w w', Grew w w' → NewE B q most flags w0 κ0 Kp o x n w → NewE B q most flags w0 κ0 Kp o x n w' := fun _ _ _ hg h => ⟨h.1, h.2.grew hg⟩
theorem Env.newE (h : Env B q most flags w0 κ0 Kp x w) (o : Obj) : NewE B q most flags w0 κ0 Kp o x w.heap.size (w.alloc o) :=
  ⟨⟨h.size, fun z hz e => by have := (Array.getElem?_eq_some_iff.1 (h.kp (n := z.1) (o := z.2) hz)).1; omega⟩, h.add o⟩
theorem NewE.all {o : Obj} (hA : AllE B q most flags w0 κ0 x y w w') : ∀ n, NewE B q most flags w0 κ0 Kp o x n w → NewE B q most flags w0 κ0 Kp o y n w' := fun _ h => ⟨h.1, hA _ h.2⟩
theorem NewE.env {o : Obj} {n : Nat} (h : NewE B q most flags w0 κ0 Kp o x n w) : Env B q most flags w0 κ0 Kp x w := by
  obtain ⟨_, κ, h1, h2, h3⟩ := h
  exact ⟨κ, h1, h2, fun z hz => h3 z (List.mem_cons_of_mem _ hz)⟩
theorem NewE.tell {o o' : Obj} {n : Nat} (h : NewE B q most flags w0 κ0 Kp o x n w) (hm : Moved (fun k => k = n) w w') (ho : w'.heap[n]? = some o') : NewE B q most flags w0 κ0 Kp o' x n w' := by
  obtain ⟨⟨hn, hk⟩, κ, h1, h2, h3⟩ := h
  have hz : κ n = 0 := (h3 _ List.mem_cons_self).2
  have hd : ∀ c, c ≠ 0 → ∀ k, κ k = c → ¬ k = n := fun c hc k hk e => hc (by rw [← hk, e]; exact hz)
  refine ⟨⟨hn, hk⟩, κ, ⟨fun k hk => ⟨(h1.lt k hk).1, Nat.lt_of_lt_of_le (h1.lt k hk).2 hm.size⟩, h1.ok, h1.self.kept hm (hd 1 (by decide)), h1.buf.kept hm (hd 2 (by decide)), h1.stk.kept hm (hd 3 (by decide)), h1.keys.kept hm (hd 4 (by decide)), h1.texts.kept hm (hd 5 (by decide)), h1.lists.kept hm (hd 6 (by decide)), h1.names.kept hm (hd 7 (by decide))⟩,
    ⟨h2.1.trans hm (fun j hj e => by omega), h2.2⟩, fun z hz' => ?_⟩
  rcases List.mem_cons.1 hz' with rfl | hz'
  · exact ⟨ho, hz⟩
  · exact ⟨hm.heap (h3 z (List.mem_cons_of_mem _ hz')).1 (fun e => hk z hz' e), (h3 z (List.mem_cons_of_mem _ hz')).2⟩
end
set_option maxRecDepth 100000 in
set_option maxHeartbeats 8000000 in
theorem vector1_any {B : Nat} {q : Ptrs} {most flags : Int} {κ : Nat → Nat} {x : BS} {w : World} (n1 n2 n3 n4 : Nat) (elem many : Int) (lv : Value) (l : List V3) (hF : VForm elem many l) (hv : ValsAt w lv l) (ha : Apart0 κ w lv) (hlen : l.length ≤ 1048576) (hok : ∀ v ∈ l, okV v) (hg : x.Good) (hx : x.e = 0) (he : Env B q most flags w κ [(n4, Obj.cells #[lv] 51 (0, 0)), (n3, Obj.cells #[.int .i64 many] 3 (0, 0)), (n2, Obj.cells #[.int .i64 elem] 3 (0, 0)), (n1, Obj.cells #[bptr q.p] 23 (0, 0))] x w) : Calls Tryz.prog 114 #[.pointer (some ⟨n1, 0, none⟩), .pointer (some ⟨n2, 0, none⟩), .pointer (some ⟨n3, 0, none⟩), .pointer (some ⟨n4, 0, none⟩)] w fun r w' => r = .returned (.tuple #[]) ∧ TurnX B q most flags κ (x.vector most elem many l) w w' := by
  have HE := Lib.hid he
  have HM4 : Hid ((n4, Obj.cells #[lv] 51 (0, 0)) ∈ ([(n4, Obj.cells #[lv] 51 (0, 0)), (n3, Obj.cells #[.int .i64 many] 3 (0, 0)), (n2, Obj.cells #[.int .i64 elem] 3 (0, 0)), (n1, Obj.cells #[bptr q.p] 23 (0, 0))] : List (Nat × Obj))) := List.mem_cons_self
  have HM3 : Hid ((n3, Obj.cells #[.int .i64 many] 3 (0, 0)) ∈ ([(n4, Obj.cells #[lv] 51 (0, 0)), (n3, Obj.cells #[.int .i64 many] 3 (0, 0)), (n2, Obj.cells #[.int .i64 elem] 3 (0, 0)), (n1, Obj.cells #[bptr q.p] 23 (0, 0))] : List (Nat × Obj))) := List.mem_cons_of_mem _ (List.mem_cons_self)
  have HM2 : Hid ((n2, Obj.cells #[.int .i64 elem] 3 (0, 0)) ∈ ([(n4, Obj.cells #[lv] 51 (0, 0)), (n3, Obj.cells #[.int .i64 many] 3 (0, 0)), (n2, Obj.cells #[.int .i64 elem] 3 (0, 0)), (n1, Obj.cells #[bptr q.p] 23 (0, 0))] : List (Nat × Obj))) := List.mem_cons_of_mem _ (List.mem_cons_of_mem _ (List.mem_cons_self))
  have HM1 : Hid ((n1, Obj.cells #[bptr q.p] 23 (0, 0)) ∈ ([(n4, Obj.cells #[lv] 51 (0, 0)), (n3, Obj.cells #[.int .i64 many] 3 (0, 0)), (n2, Obj.cells #[.int .i64 elem] 3 (0, 0)), (n1, Obj.cells #[bptr q.p] 23 (0, 0))] : List (Nat × Obj))) := List.mem_cons_of_mem _ (List.mem_cons_of_mem _ (List.mem_cons_of_mem _ (List.mem_cons_self)))
  have HPV : Hid (∀ Kp w2, Env B q most flags w κ Kp x w2 → Calls Tryz.prog 115 #[bptr q.b, .int .i64 elem, .int .i64 many, lv] w2 fun r w' => r = .returned (putV (vputF most elem many l x.s).1) ∧ AllE B q most flags w κ x { x with s := (vputF most elem many l x.s).2 } w2 w') := fun Kp w2 h => h.vput hF hv ha hlen hok (hg.s0 hx)
  have HVO : Hid (okV (vputF most elem many l x.s).1.1) := vputF_okV he.ok.len he.ok.m1
  have HY : Hid (x.vector most elem many l = (({ x with s := (vputF most elem many l x.s).2 } : BS).fail (vputF most elem many l x.s).1.2).push (vputF most elem many l x.s).1.1) := by show _ = _; unfold BS.vector; rw [if_pos hx]
  generalize vputF most elem many l x.s = PP at HPV HVO HY
  obtain ⟨⟨⟨ty, wd, n⟩, ee⟩, s1⟩ := PP
  clear he hx hg hv ha hF hok
  go_enter Tryz.func114, Tryz.ntmps114
  go_wp2_with fail
  refine wp_region_phases [8, 13] (EnvW B q most flags w κ [(n4, Obj.cells #[lv] 51 (0, 0)), (n3, Obj.cells #[.int .i64 many] 3 (0, 0)), (n2, Obj.cells #[.int .i64 elem] 3 (0, 0)), (n1, Obj.cells #[bptr q.p] 23 (0, 0))] [x] ({ x with s := s1 })) (fun _ w w' => Grew w w') (NewT 12 (NewE B q most flags w κ [(n4, Obj.cells #[lv] 51 (0, 0)), (n3, Obj.cells #[.int .i64 many] 3 (0, 0)), (n2, Obj.cells #[.int .i64 elem] 3 (0, 0)), (n1, Obj.cells #[bptr q.p] 23 (0, 0))] (.cells #[.int .i64 0, .int .i64 0, .int .u64 0] 92 (0, 0)) (x)) (NewE B q most flags w κ [(n4, Obj.cells #[lv] 51 (0, 0)), (n3, Obj.cells #[.int .i64 many] 3 (0, 0)), (n2, Obj.cells #[.int .i64 elem] 3 (0, 0)), (n1, Obj.cells #[bptr q.p] 23 (0, 0))] (.cells #[.int .i64 0, .int .i64 0, .int .u64 0] 92 (0, 0)) ({ x with s := s1 })) (NewE B q most flags w κ [(n4, Obj.cells #[lv] 51 (0, 0)), (n3, Obj.cells #[.int .i64 many] 3 (0, 0)), (n2, Obj.cells #[.int .i64 elem] 3 (0, 0)), (n1, Obj.cells #[bptr q.p] 23 (0, 0))] (.cells #[.int .i64 ty, .int .i64 wd, .int .u64 n] 92 (0, 0)) ({ x with s := s1 }))) [[], [0], [0, 1], [0, 1, 2], [0, 1, 2, 3], [], [], [], [0, 1, 2, 3, 4, 5, 6, 7], [0, 1, 2, 3, 4, 5, 6, 7, 8], [0, 1, 2, 3, 4, 5, 6, 7, 8, 9], [0, 1, 2, 3, 4, 5, 6, 7, 8, 9], [], [0, 1, 2, 3, 4, 5, 6, 7, 8, 9, 10, 12], [0, 1, 2, 3, 4, 5, 6, 7, 8, 9, 10, 11, 12, 13]] [[(12, 5), (13, 6), (14, 7), (4, 12)], [(7, 0), (12, 5), (13, 6), (14, 7), (4, 12)], [(7, 0), (8, 1), (12, 5), (13, 6), (14, 7), (4, 12)], [(7, 0), (8, 1), (9, 2), (12, 5), (13, 6), (14, 7), (4, 12)], [(7, 0), (8, 1), (9, 2), (10, 3), (12, 5), (13, 6), (14, 7), (4, 12)], [(7, 0), (8, 1), (9, 2), (10, 3), (11, 4), (13, 6), (14, 7), (4, 12)], [(7, 0), (8, 1), (9, 2), (10, 3), (11, 4), (12, 5), (14, 7), (4, 12)], [(7, 0), (8, 1), (9, 2), (10, 3), (11, 4), (12, 5), (13, 6), (4, 12)], [(7, 0), (8, 1), (9, 2), (10, 3), (11, 4), (12, 5), (13, 6), (14, 7), (4, 12)], [(7, 0), (8, 1), (9, 2), (10, 3), (11, 4), (12, 5), (13, 6), (14, 7), (15, 8), (4, 12)], [(7, 0), (8, 1), (9, 2), (10, 3), (11, 4), (12, 5), (13, 6), (14, 7), (15, 8), (6, 9), (17, 11), (4, 12)], [(7, 0), (8, 1), (9, 2), (10, 3), (11, 4), (12, 5), (13, 6), (14, 7), (15, 8), (6, 9), (16, 10), (4, 12)], [(7, 0), (8, 1), (9, 2), (10, 3), (11, 4), (12, 5), (13, 6), (14, 7), (15, 8), (6, 9), (16, 10), (17, 11)], [(7, 0), (8, 1), (9, 2), (10, 3), (11, 4), (12, 5), (13, 6), (14, 7), (15, 8), (6, 9), (16, 10), (17, 11), (4, 12)], [(7, 0), (8, 1), (9, 2), (10, 3), (11, 4), (12, 5), (13, 6), (14, 7), (15, 8), (6, 9), (16, 10), (17, 11), (4, 12)]] [(7, 0), (8, 1), (9, 2), (10, 3), (11, 4), (12, 5), (13, 6), (14, 7), (15, 8), (6, 9), (16, 10), (17, 11), (4, 12), (5, 14)]
    [IsP (bptr q.p), IsP (bptr q.p), IsP (bptr q.p), IsP (bptr q.p), IsP (bptr q.b), IsP (.int .i64 elem), IsP (.int .i64 many), IsP (lv), IsP (.tuple #[.agg #[.int .i64 ty, .int .i64 wd, .int .u64 n], .int .i64 ee]), IsP (.tuple #[.agg #[.int .i64 ty, .int .i64 wd, .int .u64 n], .int .i64 ee]), IsP (.agg #[.int .i64 ty, .int .i64 wd, .int .u64 n]), IsP (.int .i64 ee), NewV (NewE B q most flags w κ [(n4, Obj.cells #[lv] 51 (0, 0)), (n3, Obj.cells #[.int .i64 many] 3 (0, 0)), (n2, Obj.cells #[.int .i64 elem] 3 (0, 0)), (n1, Obj.cells #[bptr q.p] 23 (0, 0))] (.cells #[.int .i64 0, .int .i64 0, .int .u64 0] 92 (0, 0)) (x)) (NewE B q most flags w κ [(n4, Obj.cells #[lv] 51 (0, 0)), (n3, Obj.cells #[.int .i64 many] 3 (0, 0)), (n2, Obj.cells #[.int .i64 elem] 3 (0, 0)), (n1, Obj.cells #[bptr q.p] 23 (0, 0))] (.cells #[.int .i64 0, .int .i64 0, .int .u64 0] 92 (0, 0)) ({ x with s := s1 })) (NewE B q most flags w κ [(n4, Obj.cells #[lv] 51 (0, 0)), (n3, Obj.cells #[.int .i64 many] 3 (0, 0)), (n2, Obj.cells #[.int .i64 elem] 3 (0, 0)), (n1, Obj.cells #[bptr q.p] 23 (0, 0))] (.cells #[.int .i64 ty, .int .i64 wd, .int .u64 n] 92 (0, 0)) ({ x with s := s1 })), fun _ _ _ => True, IsP (.int .i64 ee)]
    (by kernel_rfl) (EnvW.grew) (HE.out.grew (Grew.refl _).drew) (by kernel_rfl) (by kernel_rfl) ⟨isP_st, isP_st, isP_st, isP_st, isP_st, isP_st, isP_st, isP_st, isP_st, isP_st, isP_st, isP_st, NewV.st NewE.grew NewE.grew NewE.grew, ⟨fun _ _ _ _ _ h => h, fun _ _ _ _ _ h => h⟩, isP_st, trivial⟩ rfl ?_ ?_
  · intro y w2 hW hF
    simp only [factsP, IsP, Nat.reduceAdd, List.length_cons, List.length_nil] at hF hW
    have h0 := hF.1
    have h1 := hF.2.1
    have h2 := hF.2.2.1
    have h3 := hF.2.2.2.1
    have h4 := hF.2.2.2.2.1
    have h5 := hF.2.2.2.2.2.1
    have h6 := hF.2.2.2.2.2.2.1
    have h7 := hF.2.2.2.2.2.2.2.1
    have h8 := hF.2.2.2.2.2.2.2.2.1
    have h9 := hF.2.2.2.2.2.2.2.2.2.1
    have h10 := hF.2.2.2.2.2.2.2.2.2.2.1
    have h11 := hF.2.2.2.2.2.2.2.2.2.2.2.1
    have h12 := hF.2.2.2.2.2.2.2.2.2.2.2.2.1
    have h14 := hF.2.2.2.2.2.2.2.2.2.2.2.2.2.2.1
    clear hF
    simp only [fillL, Act.put, List.setIfInBounds_toArray, List.set_cons_zero, List.set_cons_succ, List.getD_cons_zero, List.getD_cons_succ]
    simp only [h0, h1, h2, h3, h4, h5, h6, h7, h8, h9, h10, h11, h14]
    clear h0 h1 h2 h3 h4 h5 h6 h7 h8 h9 h10 h11 h14
    obtain ⟨nn, e12, hE⟩ := (show NewV _ _ _ 2 _ _ from h12)
    simp only [e12]
    have HE2 := Lib.hid hE.2
    clear h12 e12 hE hW
    have HM1b : Hid ((n1, Obj.cells #[bptr q.p] 23 (0, 0)) ∈ (((nn, Obj.cells #[.int .i64 ty, .int .i64 wd, .int .u64 n] 92 (0, 0)) :: [(n4, Obj.cells #[lv] 51 (0, 0)), (n3, Obj.cells #[.int .i64 many] 3 (0, 0)), (n2, Obj.cells #[.int .i64 elem] 3 (0, 0)), (n1, Obj.cells #[bptr q.p] 23 (0, 0))]) : List (Nat × Obj))) := List.mem_cons_of_mem _ HM1.out
    have cb := Env.cell HE2.out HM1b.out 0 _ rfl
    go_wp2_with fail
    refine (HE2.out.call fun κ1 hb hz => pfail_any ee hb).mono ?_
    rintro r w3 ⟨rfl, he⟩
    have HE3 := Lib.hid he
    clear he cb
    go_wp2_with fail
    refine wp_region_phases [4] (EnvW B q most flags w κ ((nn, Obj.cells #[.int .i64 ty, .int .i64 wd, .int .u64 n] 92 (0, 0)) :: [(n4, Obj.cells #[lv] 51 (0, 0)), (n3, Obj.cells #[.int .i64 many] 3 (0, 0)), (n2, Obj.cells #[.int .i64 elem] 3 (0, 0)), (n1, Obj.cells #[bptr q.p] 23 (0, 0))]) [(({ x with s := s1 } : BS).fail ee)] ((({ x with s := s1 } : BS).fail ee).push (ty, wd, n))) (fun _ w w' => Grew w w') ((fun p (_ : Nat → Value) => (fun _ _ _ => True) p)) [[], [0], [0, 1], [], [0, 1, 2, 3]] [[(26, 3)], [(23, 0), (26, 3)], [(23, 0), (24, 1), (26, 3)], [(23, 0), (24, 1), (25, 2)], [(23, 0), (24, 1), (25, 2), (26, 3)]] [(23, 0), (24, 1), (25, 2), (26, 3), (27, 4)]
      [IsP (bptr q.p), IsP (bptr q.p), IsP (bptr q.p), IsP (.agg #[.int .i64 ty, .int .i64 wd, .int .u64 n]), IsP (.tuple #[])]
      (by kernel_rfl) (EnvW.grew) (HE3.out.grew (Grew.refl _).drew) (by kernel_rfl) (by kernel_rfl) ⟨isP_st, isP_st, isP_st, isP_st, isP_st, trivial⟩ rfl ?_ ?_
    · intro y w2 hW hF
      simp only [factsP, IsP, Nat.reduceAdd, List.length_cons, List.length_nil] at hF hW
      have h0 := hF.1
      have h1 := hF.2.1
      have h2 := hF.2.2.1
      have h3 := hF.2.2.2.1
      have h4 := hF.2.2.2.2.1
      clear hF
      simp only [fillL, Act.put, List.setIfInBounds_toArray, List.set_cons_zero, List.set_cons_succ, List.getD_cons_zero, List.getD_cons_succ]
      simp only [h0, h1, h2, h3, h4]
      clear h0 h1 h2 h3 h4
      go_wp2
      go_end0
      exact ⟨rfl, by rw [HY.out]; exact Env.turn hW⟩
    refine ⟨?_, ?_⟩
    · refine wordP_read 0 0 (by kernel_rfl) (by kernel_rfl) (by kernel_rfl) ?_
      intro y w2 p hlo hhi hW hD K hK
      have dq := Env.cell hW HM1b.out 0 _ rfl
      clear hD
      generalize hAA : fillL y _ _ = AA at hK ⊢
      simp only [fillL, Act.put, List.setIfInBounds_toArray, List.set_cons_zero, List.set_cons_succ, List.getD_cons_zero, List.getD_cons_succ, IsP] at hAA
      subst hAA
      simp only [List.getD_cons_zero, List.getD_cons_succ, IsP] at hK
      refine ite_yes (by rfl) ?_
      go_simp
      exact hK _ _ _ rfl (Grew.refl _) rfl
    refine ⟨?_, ?_⟩
    · refine wordP_read 0 0 (by kernel_rfl) (by kernel_rfl) (by kernel_rfl) ?_
      intro y w2 p hlo hhi hW hD K hK
      simp only [depsP, List.getD_cons_zero, List.getD_cons_succ, IsP] at hD
      have h0 := hD.1
      clear hD
      generalize hAA : fillL y _ _ = AA at hK ⊢
      simp only [fillL, Act.put, List.setIfInBounds_toArray, List.set_cons_zero, List.set_cons_succ, List.getD_cons_zero, List.getD_cons_succ, IsP] at hAA
      subst hAA
      simp only [List.getD_cons_zero, List.getD_cons_succ, IsP] at hK
      simp only [h0] at hK ⊢
      clear h0
      refine ite_yes (by rfl) ?_
      go_simp
      exact hK _ _ _ rfl (Grew.refl _) rfl
    refine ⟨?_, ?_⟩
    · refine wordP_read 0 0 (by kernel_rfl) (by kernel_rfl) (by kernel_rfl) ?_
      intro y w2 p hlo hhi hW hD K hK
      simp only [depsP, List.getD_cons_zero, List.getD_cons_succ, IsP] at hD
      have h0 := hD.1
      have h1 := hD.2.1
      clear hD
      generalize hAA : fillL y _ _ = AA at hK ⊢
      simp only [fillL, Act.put, List.setIfInBounds_toArray, List.set_cons_zero, List.set_cons_succ, List.getD_cons_zero, List.getD_cons_succ, IsP] at hAA
      subst hAA
      simp only [List.getD_cons_zero, List.getD_cons_succ, IsP] at hK
      simp only [h0, h1] at hK ⊢
      clear h0 h1
      refine ite_yes (by rfl) ?_
      go_simp
      exact hK _ _ _ rfl (Grew.refl _) rfl
    refine ⟨?_, ?_⟩
    · refine wordP_read 0 0 (by kernel_rfl) (by kernel_rfl) (by kernel_rfl) ?_
      intro y w2 p hlo hhi hW hD K hK
      have dd0 := Env.cell hW List.mem_cons_self 0 _ rfl
      have dd1 := Env.cell hW List.mem_cons_self 1 _ rfl
      have dd2 := Env.cell hW List.mem_cons_self 2 _ rfl
      clear hD
      generalize hAA : fillL y _ _ = AA at hK ⊢
      simp only [fillL, Act.put, List.setIfInBounds_toArray, List.set_cons_zero, List.set_cons_succ, List.getD_cons_zero, List.getD_cons_succ, IsP] at hAA
      subst hAA
      simp only [List.getD_cons_zero, List.getD_cons_succ, IsP] at hK
      refine ite_yes (by rfl) ?_
      go_simp
      exact hK _ _ _ rfl (Grew.refl _) rfl
    refine ⟨?_, ?_⟩
    · refine wordP_write 0 rfl ?_
      intro y w2 hW hD K hK
      simp only [depsP, List.getD_cons_zero, List.getD_cons_succ, IsP] at hD
      have h0 := hD.1
      have h1 := hD.2.1
      have h2 := hD.2.2.1
      have h3 := hD.2.2.2.1
      clear hD
      generalize hAA : fillL y _ _ = AA at hK ⊢
      simp only [fillL, Act.put, List.setIfInBounds_toArray, List.set_cons_zero, List.set_cons_succ, List.getD_cons_zero, List.getD_cons_succ, IsP] at hAA
      subst hAA
      simp only [List.getD_cons_zero, List.getD_cons_succ, IsP] at hK
      simp only [h0, h1, h2, h3] at hK ⊢
      clear h0 h1 h2 h3
      refine ite_yes (by rfl) ?_
      go_simp
      refine (Env.call hW fun κ1 hb hz => ppush_any (ty, wd, n) HVO.out hb).mono ?_
      rintro r w3 ⟨rfl, he⟩
      exact hK _ _ _ rfl trivial he rfl
    trivial
  refine ⟨?_, ?_⟩
  · refine wordP_read 0 0 (by kernel_rfl) (by kernel_rfl) (by kernel_rfl) ?_
    intro y w2 p hlo hhi hW hD K hK
    have d10 := Env.cell hW HM1.out 0 _ rfl
    clear hD
    generalize hAA : fillL y _ _ = AA at hK ⊢
    simp only [fillL, Act.put, List.setIfInBounds_toArray, List.set_cons_zero, List.set_cons_succ, List.getD_cons_zero, List.getD_cons_succ, IsP] at hAA
    subst hAA
    simp only [List.getD_cons_zero, List.getD_cons_succ, IsP] at hK
    refine ite_yes (by rfl) ?_
    go_simp
    exact hK _ _ _ rfl (Grew.refl _) rfl
  refine ⟨?_, ?_⟩
  · refine wordP_read 0 0 (by kernel_rfl) (by kernel_rfl) (by kernel_rfl) ?_
    intro y w2 p hlo hhi hW hD K hK
    simp only [depsP, List.getD_cons_zero, List.getD_cons_succ, IsP] at hD
    have h0 := hD.1
    clear hD
    generalize hAA : fillL y _ _ = AA at hK ⊢
    simp only [fillL, Act.put, List.setIfInBounds_toArray, List.set_cons_zero, List.set_cons_succ, List.getD_cons_zero, List.getD_cons_succ, IsP] at hAA
    subst hAA
    simp only [List.getD_cons_zero, List.getD_cons_succ, IsP] at hK
    simp only [h0] at hK ⊢
    clear h0
    refine ite_yes (by rfl) ?_
    go_simp
    exact hK _ _ _ rfl (Grew.refl _) rfl
  refine ⟨?_, ?_⟩
  · refine wordP_read 0 0 (by kernel_rfl) (by kernel_rfl) (by kernel_rfl) ?_
    intro y w2 p hlo hhi hW hD K hK
    simp only [depsP, List.getD_cons_zero, List.getD_cons_succ, IsP] at hD
    have h0 := hD.1
    have h1 := hD.2.1
    clear hD
    generalize hAA : fillL y _ _ = AA at hK ⊢
    simp only [fillL, Act.put, List.setIfInBounds_toArray, List.set_cons_zero, List.set_cons_succ, List.getD_cons_zero, List.getD_cons_succ, IsP] at hAA
    subst hAA
    simp only [List.getD_cons_zero, List.getD_cons_succ, IsP] at hK
    simp only [h0, h1] at hK ⊢
    clear h0 h1
    refine ite_yes (by rfl) ?_
    go_simp
    exact hK _ _ _ rfl (Grew.refl _) rfl
  refine ⟨?_, ?_⟩
  · refine wordP_read 0 0 (by kernel_rfl) (by kernel_rfl) (by kernel_rfl) ?_
    intro y w2 p hlo hhi hW hD K hK
    simp only [depsP, List.getD_cons_zero, List.getD_cons_succ, IsP] at hD
    have h0 := hD.1
    have h1 := hD.2.1
    have h2 := hD.2.2.1
    clear hD
    generalize hAA : fillL y _ _ = AA at hK ⊢
    simp only [fillL, Act.put, List.setIfInBounds_toArray, List.set_cons_zero, List.set_cons_succ, List.getD_cons_zero, List.getD_cons_succ, IsP] at hAA
    subst hAA
    simp only [List.getD_cons_zero, List.getD_cons_succ, IsP] at hK
    simp only [h0, h1, h2] at hK ⊢
    clear h0 h1 h2
    refine ite_yes (by rfl) ?_
    go_simp
    exact hK _ _ _ rfl (Grew.refl _) rfl
  refine ⟨?_, ?_⟩
  · refine wordP_read 0 0 (by kernel_rfl) (by kernel_rfl) (by kernel_rfl) ?_
    intro y w2 p hlo hhi hW hD K hK
    have dd := Env.at0 hW
    simp only [depsP, List.getD_cons_zero, List.getD_cons_succ, IsP] at hD
    have h0 := hD.1
    have h1 := hD.2.1
    have h2 := hD.2.2.1
    have h3 := hD.2.2.2.1
    clear hD
    generalize hAA : fillL y _ _ = AA at hK ⊢
    simp only [fillL, Act.put, List.setIfInBounds_toArray, List.set_cons_zero, List.set_cons_succ, List.getD_cons_zero, List.getD_cons_succ, IsP] at hAA
    subst hAA
    simp only [List.getD_cons_zero, List.getD_cons_succ, IsP] at hK
    simp only [h0, h1, h2, h3] at hK ⊢
    clear h0 h1 h2 h3
    refine ite_yes (by rfl) ?_
    go_simp
    exact hK _ _ _ rfl (Grew.refl _) rfl
  refine ⟨?_, ?_⟩
  · refine wordP_read 0 0 (by kernel_rfl) (by kernel_rfl) (by kernel_rfl) ?_
    intro y w2 p hlo hhi hW hD K hK
    have d20 := Env.cell hW HM2.out 0 _ rfl
    clear hD
    generalize hAA : fillL y _ _ = AA at hK ⊢
    simp only [fillL, Act.put, List.setIfInBounds_toArray, List.set_cons_zero, List.set_cons_succ, List.getD_cons_zero, List.getD_cons_succ, IsP] at hAA
    subst hAA
    simp only [List.getD_cons_zero, List.getD_cons_succ, IsP] at hK
    refine ite_yes (by rfl) ?_
    go_simp
    exact hK _ _ _ rfl (Grew.refl _) rfl
  refine ⟨?_, ?_⟩
  · refine wordP_read 0 0 (by kernel_rfl) (by kernel_rfl) (by kernel_rfl) ?_
    intro y w2 p hlo hhi hW hD K hK
    have d30 := Env.cell hW HM3.out 0 _ rfl
    clear hD
    generalize hAA : fillL y _ _ = AA at hK ⊢
    simp only [fillL, Act.put, List.setIfInBounds_toArray, List.set_cons_zero, List.set_cons_succ, List.getD_cons_zero, List.getD_cons_succ, IsP] at hAA
    subst hAA
    simp only [List.getD_cons_zero, List.getD_cons_succ, IsP] at hK
    refine ite_yes (by rfl) ?_
    go_simp
    exact hK _ _ _ rfl (Grew.refl _) rfl
  refine ⟨?_, ?_⟩
  · refine wordP_read 0 0 (by kernel_rfl) (by kernel_rfl) (by kernel_rfl) ?_
    intro y w2 p hlo hhi hW hD K hK
    have d40 := Env.cell hW HM4.out 0 _ rfl
    clear hD
    generalize hAA : fillL y _ _ = AA at hK ⊢
    simp only [fillL, Act.put, List.setIfInBounds_toArray, List.set_cons_zero, List.set_cons_succ, List.getD_cons_zero, List.getD_cons_succ, IsP] at hAA
    subst hAA
    simp only [List.getD_cons_zero, List.getD_cons_succ, IsP] at hK
    refine ite_yes (by rfl) ?_
    go_simp
    exact hK _ _ _ rfl (Grew.refl _) rfl
  refine ⟨?_, ?_⟩
  · refine wordP_write 0 rfl ?_
    intro y w2 hW hD K hK
    simp only [depsP, List.getD_cons_zero, List.getD_cons_succ, IsP] at hD
    have h0 := hD.1
    have h1 := hD.2.1
    have h2 := hD.2.2.1
    have h3 := hD.2.2.2.1
    have h4 := hD.2.2.2.2.1
    have h5 := hD.2.2.2.2.2.1
    have h6 := hD.2.2.2.2.2.2.1
    have h7 := hD.2.2.2.2.2.2.2.1
    clear hD
    generalize hAA : fillL y _ _ = AA at hK ⊢
    simp only [fillL, Act.put, List.setIfInBounds_toArray, List.set_cons_zero, List.set_cons_succ, List.getD_cons_zero, List.getD_cons_succ, IsP] at hAA
    subst hAA
    simp only [List.getD_cons_zero, List.getD_cons_succ, IsP] at hK
    simp only [h0, h1, h2, h3, h4, h5, h6, h7] at hK ⊢
    clear h0 h1 h2 h3 h4 h5 h6 h7
    refine ite_yes (by rfl) ?_
    go_simp
    refine (HPV.out _ w2 hW).mono ?_
    rintro r w3 ⟨rfl, hA⟩
    exact hK _ _ _ rfl (NewE.all hA) (hA _ hW) rfl
  refine ⟨?_, ?_⟩
  · refine wordP_read 1 1 (by kernel_rfl) (by kernel_rfl) (by kernel_rfl) ?_
    intro y w2 p hlo hhi hW hD K hK
    simp only [depsP, List.getD_cons_zero, List.getD_cons_succ, IsP] at hD
    have h0 := hD.1
    have h1 := hD.2.1
    have h2 := hD.2.2.1
    have h3 := hD.2.2.2.1
    have h4 := hD.2.2.2.2.1
    have h5 := hD.2.2.2.2.2.1
    have h6 := hD.2.2.2.2.2.2.1
    have h7 := hD.2.2.2.2.2.2.2.1
    have h8 := hD.2.2.2.2.2.2.2.2.1
    clear hD
    generalize hAA : fillL y _ _ = AA at hK ⊢
    simp only [fillL, Act.put, List.setIfInBounds_toArray, List.set_cons_zero, List.set_cons_succ, List.getD_cons_zero, List.getD_cons_succ, IsP] at hAA
    subst hAA
    simp only [List.getD_cons_zero, List.getD_cons_succ, IsP] at hK
    simp only [h0, h1, h2, h3, h4, h5, h6, h7, h8] at hK ⊢
    clear h0 h1 h2 h3 h4 h5 h6 h7 h8
    refine ite_yes (by rfl) ?_
    go_simp
    exact hK _ _ _ rfl (Grew.refl _) rfl
  refine ⟨?_, ?_⟩
  · refine wordP_read 1 1 (by kernel_rfl) (by kernel_rfl) (by kernel_rfl) ?_
    intro y w2 p hlo hhi hW hD K hK
    simp only [depsP, List.getD_cons_zero, List.getD_cons_succ, IsP] at hD
    have h0 := hD.1
    have h1 := hD.2.1
    have h2 := hD.2.2.1
    have h3 := hD.2.2.2.1
    have h4 := hD.2.2.2.2.1
    have h5 := hD.2.2.2.2.2.1
    have h6 := hD.2.2.2.2.2.2.1
    have h7 := hD.2.2.2.2.2.2.2.1
    have h8 := hD.2.2.2.2.2.2.2.2.1
    have h9 := hD.2.2.2.2.2.2.2.2.2.1
    clear hD
    generalize hAA : fillL y _ _ = AA at hK ⊢
    simp only [fillL, Act.put, List.setIfInBounds_toArray, List.set_cons_zero, List.set_cons_succ, List.getD_cons_zero, List.getD_cons_succ, IsP] at hAA
    subst hAA
    simp only [List.getD_cons_zero, List.getD_cons_succ, IsP] at hK
    simp only [h0, h1, h2, h3, h4, h5, h6, h7, h8, h9] at hK ⊢
    clear h0 h1 h2 h3 h4 h5 h6 h7 h8 h9
    refine ite_yes (by rfl) ?_
    go_simp
    exact hK _ _ _ rfl (Grew.refl _) rfl
  refine ⟨?_, ?_⟩
  · refine wordP_read 1 2 (by kernel_rfl) (by kernel_rfl) (by kernel_rfl) ?_
    intro y w2 p hlo hhi hW hD K hK
    simp only [depsP, List.getD_cons_zero, List.getD_cons_succ, IsP] at hD
    have h0 := hD.1
    have h1 := hD.2.1
    have h2 := hD.2.2.1
    have h3 := hD.2.2.2.1
    have h4 := hD.2.2.2.2.1
    have h5 := hD.2.2.2.2.2.1
    have h6 := hD.2.2.2.2.2.2.1
    have h7 := hD.2.2.2.2.2.2.2.1
    have h8 := hD.2.2.2.2.2.2.2.2.1
    have h9 := hD.2.2.2.2.2.2.2.2.2.1
    clear hD
    generalize hAA : fillL y _ _ = AA at hK ⊢
    simp only [fillL, Act.put, List.setIfInBounds_toArray, List.set_cons_zero, List.set_cons_succ, List.getD_cons_zero, List.getD_cons_succ, IsP] at hAA
    subst hAA
    simp only [List.getD_cons_zero, List.getD_cons_succ, IsP] at hK
    simp only [h0, h1, h2, h3, h4, h5, h6, h7, h8, h9] at hK ⊢
    clear h0 h1 h2 h3 h4 h5 h6 h7 h8 h9
    refine ite_yes (by rfl) ?_
    go_simp
    exact hK _ _ _ rfl (Grew.refl _) rfl
  refine ⟨?_, ?_⟩
  · refine wordP_read 0 1 (by kernel_rfl) (by kernel_rfl) (by kernel_rfl) ?_
    intro y w2 p hlo hhi hW hD K hK
    clear hD
    generalize hAA : fillL y _ _ = AA at hK ⊢
    simp only [fillL, Act.put, List.setIfInBounds_toArray, List.set_cons_zero, List.set_cons_succ, List.getD_cons_zero, List.getD_cons_succ, IsP] at hAA
    subst hAA
    simp only [List.getD_cons_zero, List.getD_cons_succ, IsP] at hK
    refine ite_yes (by rfl) ?_
    go_simp
    rcases (by omega : p = 0 ∨ p = 1) with rfl | rfl
    · exact hK _ _ _ rfl ((Grew.refl _).alloc _) (show NewV _ _ _ 0 _ _ from ⟨_, rfl, Env.newE hW _⟩)
    · exact hK _ _ _ rfl ((Grew.refl _).alloc _) (show NewV _ _ _ 1 _ _ from ⟨_, rfl, Env.newE hW _⟩)
  refine ⟨?_, ?_⟩
  · refine wordP_write 1 rfl ?_
    intro y w2 hW hD K hK
    simp only [depsP, List.getD_cons_zero, List.getD_cons_succ, IsP] at hD
    have h0 := hD.1
    have h1 := hD.2.1
    have h2 := hD.2.2.1
    have h3 := hD.2.2.2.1
    have h4 := hD.2.2.2.2.1
    have h5 := hD.2.2.2.2.2.1
    have h6 := hD.2.2.2.2.2.2.1
    have h7 := hD.2.2.2.2.2.2.2.1
    have h8 := hD.2.2.2.2.2.2.2.2.1
    have h9 := hD.2.2.2.2.2.2.2.2.2.1
    have h10 := hD.2.2.2.2.2.2.2.2.2.2.1
    have h12 := hD.2.2.2.2.2.2.2.2.2.2.2.1
    clear hD
    generalize hAA : fillL y _ _ = AA at hK ⊢
    simp only [fillL, Act.put, List.setIfInBounds_toArray, List.set_cons_zero, List.set_cons_succ, List.getD_cons_zero, List.getD_cons_succ, IsP] at hAA
    subst hAA
    simp only [List.getD_cons_zero, List.getD_cons_succ, IsP] at hK
    simp only [h0, h1, h2, h3, h4, h5, h6, h7, h8, h9, h10] at hK ⊢
    clear h0 h1 h2 h3 h4 h5 h6 h7 h8 h9 h10
    obtain ⟨nn, e12, hE⟩ := h12
    simp only [e12] at hK ⊢
    have hrow := hE.2.kp List.mem_cons_self
    have f0 := row_frozen hrow 0
    have f1 := row_frozen hrow 1
    have f2 := row_frozen hrow 2
    have c0 := row_cellT hrow 0 _ rfl
    have c1 := row_cellT hrow 1 _ rfl
    have c2 := row_cellT hrow 2 _ rfl
    clear hrow
    refine ite_yes (by rfl) ?_
    go_simp
    have hs := NewE.tell hE (moved3 w2 nn (.int .i64 ty) (.int .i64 wd) (.int .u64 n)) (set3 (hE.2.kp List.mem_cons_self))
    exact hK _ undef _ rfl (fun n' e' _ => by rw [e12] at e'; cases e'; exact hs) hs.env trivial
  refine ⟨?_, ?_⟩
  · refine wordP_read 2 2 (by kernel_rfl) (by kernel_rfl) (by kernel_rfl) ?_
    intro y w2 p hlo hhi hW hD K hK
    simp only [depsP, List.getD_cons_zero, List.getD_cons_succ, IsP] at hD
    have h0 := hD.1
    have h1 := hD.2.1
    have h2 := hD.2.2.1
    have h3 := hD.2.2.2.1
    have h4 := hD.2.2.2.2.1
    have h5 := hD.2.2.2.2.2.1
    have h6 := hD.2.2.2.2.2.2.1
    have h7 := hD.2.2.2.2.2.2.2.1
    have h8 := hD.2.2.2.2.2.2.2.2.1
    have h9 := hD.2.2.2.2.2.2.2.2.2.1
    have h10 := hD.2.2.2.2.2.2.2.2.2.2.1
    have h11 := hD.2.2.2.2.2.2.2.2.2.2.2.1
    have h12 := hD.2.2.2.2.2.2.2.2.2.2.2.2.1
    clear hD
    generalize hAA : fillL y _ _ = AA at hK ⊢
    simp only [fillL, Act.put, List.setIfInBounds_toArray, List.set_cons_zero, List.set_cons_succ, List.getD_cons_zero, List.getD_cons_succ, IsP] at hAA
    subst hAA
    simp only [List.getD_cons_zero, List.getD_cons_succ, IsP] at hK
    simp only [h0, h1, h2, h3, h4, h5, h6, h7, h8, h9, h10, h11] at hK ⊢
    clear h0 h1 h2 h3 h4 h5 h6 h7 h8 h9 h10 h11
    refine ite_yes (by rfl) ?_
    go_simp
    exact hK _ _ _ rfl (Grew.refl _) rfl
  trivial
theorem vector_any {B : Nat} {q : Ptrs} {most flags : Int} {κ : Nat → Nat} {x : BS} {w : World} (elem many : Int) (lv : Value) (l : List V3) (hF : VForm elem many l) (hv : ValsAt w lv l) (ha : Apart0 κ w lv) (hlen : l.length ≤ 1048576) (hok : ∀ v ∈ l, okV v) (hg : x.Good) (h : Bd B q most flags κ x w) : Calls Tryz.prog 63 #[bptr q.p, .int .i64 elem, .int .i64 many, lv] w fun r w' => r = .returned (.tuple #[]) ∧ TurnX B q most flags κ (x.vector most elem many l) w w' := by
  have hv0 := hv
  obtain ⟨la, lc, rfl, _⟩ := hv0
  have HF := Lib.hid hF
  have HVA := Lib.hid (And.intro hv ha)
  have HF2 := Lib.hid (And.intro hlen (And.intro hok hg))
  have HE : Hid (Env B q most flags w κ [(w.heap.size + 3, Obj.cells #[(.slice la l.length lc)] 51 (0, 0)), (w.heap.size + 2, Obj.cells #[.int .i64 many] 3 (0, 0)), (w.heap.size + 1, Obj.cells #[.int .i64 elem] 3 (0, 0)), (w.heap.size, Obj.cells #[bptr q.p] 23 (0, 0))] x ((((w.alloc (.cells #[bptr q.p] 23)).alloc (.cells #[.int .i64 elem] 3)).alloc (.cells #[.int .i64 many] 3)).alloc (.cells #[(.slice la l.length lc)] 51))) := by
    have hh := ((((Env.start h).add (.cells #[bptr q.p] 23)).add (.cells #[.int .i64 elem] 3)).add (.cells #[.int .i64 many] 3)).add (.cells #[(.slice la l.length lc)] 51)
    simp only [World.size_alloc, Nat.add_assoc, Nat.reduceAdd] at hh
    exact hh
  clear h hF hv ha hlen hok hg
  go_enter Tryz.func63, Tryz.ntmps63
  go_wp2_with fail
  refine (HE.out.callT fun κ1 hb ht he => unless_any hb _ _ (x.vector most elem many l) (fun hx => by unfold BS.vector; rw [if_neg hx]) (fun _ => enters_of Tryz.func114 (by kernel_rfl) rfl _ _) (fun hx => vector1_any _ _ _ _ _ _ _ _ HF.out (vals_tn HVA.out.1 HVA.out.2 ht) (HVA.out.2.tn ht) HF2.out.1 HF2.out.2.1 HF2.out.2.2 hx he)).mono ?_
  rintro r w5 ⟨rfl, he⟩
  have HT := Lib.hid he
  clear he
  go_wp2
  go_end0
  exact ⟨rfl, HT.out.turn⟩
end Go.Proofs.YtjnpcddbgfmpcaaGreat

/-
  The builder in memory: typed vectors of numbers and truths. Conditions: the builder lies in memory.
-/
namespace Go.Proofs.YtjnpcddbgfmpcaaGreat
open Go Go.ChangeShapes Go.WideShapes Go.ChangeAt Go.RowKit Go.Joins Go.Deep
open Go.Proofs.YtjnpcddbgfmpcaaGreat.Ft (V3 vV okV ValsAt inlineB legalB packF codeF typedF allF)
set_option linter.unusedVariables false
set_option linter.unusedSimpArgs false
theorem apart_own {B : Nat} {q : Ptrs} {most flags : Int} {κ : Nat → Nat} {x : BS} {w w' : World} {v : Value} {l : List V3} (h : Bd B q most flags κ x w) (ho : OwnVals w' w.heap.size v l) (hg : Grew w w') : Apart0 κ w' v := by
  rintro ad n c rfl
  rcases ho.2 with ⟨e, _⟩ | ⟨g, cap, cur, e, hge, hh, _⟩
  · cases e
  · cases e
    exact ⟨(Array.getElem?_eq_some_iff.1 hh).1, Decidable.byContradiction fun hk => by have h2 : g < w.heap.size := (h.lt _ hk).2; have h3 : w.heap.size ≤ g := hge; omega⟩
theorem bints_any {B : Nat} {q : Ptrs} {most flags : Int} {κ : Nat → Nat} {x : BS} {w : World} (l : List Int) (lv : Value) (hp : CellsAt (fun x => .int .i64 x) w lv l) (hb : ∀ x ∈ l, -9223372036854775808 ≤ x ∧ x ≤ 9223372036854775807) (hl : l.length ≤ 1048576) (hg : x.Good) (h : Bd B q most flags κ x w) : Calls Tryz.prog 40 #[bptr q.p, lv] w fun r w' => r = .returned (.tuple #[]) ∧ TurnX B q most flags κ (x.vector most 1 0 (l.map numV)) w w' := by
  have HB := Lib.hid h
  have HH := Lib.hid hg
  have HL := Lib.hid hl
  have HOK : Hid (∀ v ∈ l.map numV, okV v) := by
    intro v hv
    obtain ⟨x, hx, rfl⟩ := List.mem_map.1 hv
    exact numV_ok x (hb x hx).1 (hb x hx).2
  have HM := Lib.hid (mapI_any l lv w hp hb hl)
  have hp0 := hp
  obtain ⟨la, lc, rfl, _⟩ := hp0
  clear h hg hp hb hl
  go_enter Tryz.func40, Tryz.ntmps40
  go_wp2_with fail
  refine HM.out.mono ?_
  rintro r w1 ⟨v', rfl, ho, hgr⟩
  have HO := Lib.hid (And.intro ho hgr)
  clear ho hgr
  go_wp2_with fail
  refine (vector_any 1 0 v' (l.map numV) (.inr (.inl ⟨by decide, rfl, by kernel_rfl⟩)) HO.out.1.vals (apart_own HB.out HO.out.1 HO.out.2) (by rw [List.length_map]; exact HL.out) HOK.out HH.out (HB.out.grew HO.out.2)).mono ?_
  rintro r w2 ⟨rfl, ht⟩
  have HT := Lib.hid (ht.after HO.out.2)
  clear ht
  go_wp2
  go_end0
  exact ⟨rfl, HT.out⟩
theorem buints_any {B : Nat} {q : Ptrs} {most flags : Int} {κ : Nat → Nat} {x : BS} {w : World} (l : List Int) (lv : Value) (hp : CellsAt (fun x => .int .u64 x) w lv l) (hb : ∀ x ∈ l, 0 ≤ x ∧ x ≤ 18446744073709551615) (hl : l.length ≤ 1048576) (hg : x.Good) (h : Bd B q most flags κ x w) : Calls Tryz.prog 42 #[bptr q.p, lv] w fun r w' => r = .returned (.tuple #[]) ∧ TurnX B q most flags κ (x.vector most 2 0 (l.map unsV)) w w' := by
  have HB := Lib.hid h
  have HH := Lib.hid hg
  have HL := Lib.hid hl
  have HOK : Hid (∀ v ∈ l.map unsV, okV v) := by
    intro v hv
    obtain ⟨x, hx, rfl⟩ := List.mem_map.1 hv
    exact unsV_ok x (hb x hx).1 (hb x hx).2
  have HM := Lib.hid (mapU_any l lv w hp hb hl)
  have hp0 := hp
  obtain ⟨la, lc, rfl, _⟩ := hp0
  clear h hg hp hb hl
  go_enter Tryz.func42, Tryz.ntmps42
  go_wp2_with fail
  refine HM.out.mono ?_
  rintro r w1 ⟨v', rfl, ho, hgr⟩
  have HO := Lib.hid (And.intro ho hgr)
  clear ho hgr
  go_wp2_with fail
  refine (vector_any 2 0 v' (l.map unsV) (.inr (.inl ⟨by decide, rfl, by kernel_rfl⟩)) HO.out.1.vals (apart_own HB.out HO.out.1 HO.out.2) (by rw [List.length_map]; exact HL.out) HOK.out HH.out (HB.out.grew HO.out.2)).mono ?_
  rintro r w2 ⟨rfl, ht⟩
  have HT := Lib.hid (ht.after HO.out.2)
  clear ht
  go_wp2
  go_end0
  exact ⟨rfl, HT.out⟩
theorem bbools_any {B : Nat} {q : Ptrs} {most flags : Int} {κ : Nat → Nat} {x : BS} {w : World} (l : List Bool) (lv : Value) (hp : CellsAt (fun x => .bool x) w lv l) (hb : ∀ x ∈ l, True) (hl : l.length ≤ 1048576) (hg : x.Good) (h : Bd B q most flags κ x w) : Calls Tryz.prog 44 #[bptr q.p, lv] w fun r w' => r = .returned (.tuple #[]) ∧ TurnX B q most flags κ (x.vector most 26 0 (l.map truthV)) w w' := by
  have HB := Lib.hid h
  have HH := Lib.hid hg
  have HL := Lib.hid hl
  have HOK : Hid (∀ v ∈ l.map truthV, okV v) := by
    intro v hv
    obtain ⟨x, hx, rfl⟩ := List.mem_map.1 hv
    exact truthV_ok x
  have HM := Lib.hid (mapB_any l lv w hp hb hl)
  have hp0 := hp
  obtain ⟨la, lc, rfl, _⟩ := hp0
  clear h hg hp hb hl
  go_enter Tryz.func44, Tryz.ntmps44
  go_wp2_with fail
  refine HM.out.mono ?_
  rintro r w1 ⟨v', rfl, ho, hgr⟩
  have HO := Lib.hid (And.intro ho hgr)
  clear ho hgr
  go_wp2_with fail
  refine (vector_any 26 0 v' (l.map truthV) (.inr (.inl ⟨by decide, rfl, by kernel_rfl⟩)) HO.out.1.vals (apart_own HB.out HO.out.1 HO.out.2) (by rw [List.length_map]; exact HL.out) HOK.out HH.out (HB.out.grew HO.out.2)).mono ?_
  rintro r w2 ⟨rfl, ht⟩
  have HT := Lib.hid (ht.after HO.out.2)
  clear ht
  go_wp2
  go_end0
  exact ⟨rfl, HT.out⟩
theorem vector_no {B : Nat} {q : Ptrs} {most flags : Int} {κ : Nat → Nat} {x : BS} {w : World} (elem many : Int) (la : Option Addr) (n lc : Nat) (hx0 : x.e ≠ 0) (h : Bd B q most flags κ x w) : Calls Tryz.prog 63 #[bptr q.p, .int .i64 elem, .int .i64 many, .slice la n lc] w fun r w' => r = .returned (.tuple #[]) ∧ TurnX B q most flags κ (x) w w' := by
  have HX := Lib.hid hx0
  have HE : Hid (Env B q most flags w κ [(w.heap.size + 3, Obj.cells #[(.slice la n lc)] 51 (0, 0)), (w.heap.size + 2, Obj.cells #[.int .i64 many] 3 (0, 0)), (w.heap.size + 1, Obj.cells #[.int .i64 elem] 3 (0, 0)), (w.heap.size, Obj.cells #[bptr q.p] 23 (0, 0))] x ((((w.alloc (.cells #[bptr q.p] 23)).alloc (.cells #[.int .i64 elem] 3)).alloc (.cells #[.int .i64 many] 3)).alloc (.cells #[(.slice la n lc)] 51))) := by
    have hh := ((((Env.start h).add (.cells #[bptr q.p] 23)).add (.cells #[.int .i64 elem] 3)).add (.cells #[.int .i64 many] 3)).add (.cells #[(.slice la n lc)] 51)
    simp only [World.size_alloc, Nat.add_assoc, Nat.reduceAdd] at hh
    exact hh
  clear h hx0
  go_enter Tryz.func63, Tryz.ntmps63
  go_wp2_with fail
  refine (HE.out.call' fun κ1 hb he => unless_any hb _ _ (x) (fun hx => rfl) (fun _ => enters_of Tryz.func114 (by kernel_rfl) rfl _ _) (fun hx => absurd hx HX.out)).mono ?_
  rintro r w5 ⟨rfl, he⟩
  have HT := Lib.hid he
  clear he
  go_wp2
  go_end0
  exact ⟨rfl, HT.out.turn⟩
end Go.Proofs.YtjnpcddbgfmpcaaGreat

/-
  The builder in memory: fixed vectors. Conditions: the builder lies in memory.
-/
namespace Go.Proofs.YtjnpcddbgfmpcaaGreat
open Go Go.ChangeShapes Go.WideShapes Go.ChangeAt Go.RowKit Go.Joins Go.Deep
open Go.Proofs.YtjnpcddbgfmpcaaGreat.Ft (V3 vV okV ValsAt inlineB legalB packF codeF typedF allF)
set_option linter.unusedVariables false
set_option linter.unusedSimpArgs false
set_option maxRecDepth 100000 in
theorem fixed1_any {B : Nat} {q : Ptrs} {most flags : Int} {κ : Nat → Nat} {x : BS} {w : World} (n1 n2 n3 : Nat) (elem : Int) (la : Option Addr) (lc : Nat) (l : List V3) (hne : elem ≠ -1) (hT : ∀ n : Nat, 2 ≤ n → n ≤ 4 → (typedF elem (n : Int)).2 = true) (hv : ValsAt w (.slice la l.length lc) l) (ha : Apart0 κ w (.slice la l.length lc)) (hlen : l.length ≤ 1048576) (hok : ∀ v ∈ l, okV v) (hg : x.Good) (hx : x.e = 0) (he : Env B q most flags w κ [(n3, Obj.cells #[(.slice la l.length lc)] 51 (0, 0)), (n2, Obj.cells #[.int .i64 elem] 3 (0, 0)), (n1, Obj.cells #[bptr q.p] 23 (0, 0))] x w) : Calls Tryz.prog 162 #[.pointer (some ⟨n3, 0, none⟩), .pointer (some ⟨n1, 0, none⟩), .pointer (some ⟨n2, 0, none⟩)] w fun r w' => r = .returned (.tuple #[]) ∧ TurnX B q most flags κ (x.fixed most elem l) w w' := by
  have HE := Lib.hid he
  have HM3 : Hid ((n3, Obj.cells #[(.slice la l.length lc)] 51 (0, 0)) ∈ ([(n3, Obj.cells #[(.slice la l.length lc)] 51 (0, 0)), (n2, Obj.cells #[.int .i64 elem] 3 (0, 0)), (n1, Obj.cells #[bptr q.p] 23 (0, 0))] : List (Nat × Obj))) := List.mem_cons_self
  have HM2 : Hid ((n2, Obj.cells #[.int .i64 elem] 3 (0, 0)) ∈ ([(n3, Obj.cells #[(.slice la l.length lc)] 51 (0, 0)), (n2, Obj.cells #[.int .i64 elem] 3 (0, 0)), (n1, Obj.cells #[bptr q.p] 23 (0, 0))] : List (Nat × Obj))) := List.mem_cons_of_mem _ (List.mem_cons_self)
  have HM1 : Hid ((n1, Obj.cells #[bptr q.p] 23 (0, 0)) ∈ ([(n3, Obj.cells #[(.slice la l.length lc)] 51 (0, 0)), (n2, Obj.cells #[.int .i64 elem] 3 (0, 0)), (n1, Obj.cells #[bptr q.p] 23 (0, 0))] : List (Nat × Obj))) := List.mem_cons_of_mem _ (List.mem_cons_of_mem _ (List.mem_cons_self))
  have HVA := Lib.hid (And.intro hv ha)
  have HF2 := Lib.hid (And.intro hlen (And.intro hok hg))
  have cb := Env.cell he HM1.out 0 _ rfl
  have ce := Env.cell he HM2.out 0 _ rfl
  have cl := Env.cell he HM3.out 0 _ rfl
  have HX := Lib.hid hx
  have hll : l.length ≤ 9223372036854775807 := by omega
  by_cases hb2 : l.length < 2 ∨ 4 < l.length
  · have HY : Hid (x.fixed most elem l = x.fail 2) := by show _ = _; unfold BS.fixed; rw [if_pos hx, if_pos hb2]
    have HN : Hid ((x.fail 2).e ≠ 0) := by show _ ≠ _; unfold BS.fail failS; rw [if_pos hx]; show (2 : Int) ≠ 0; decide
    clear he hv ha hlen hok hg hT hx
    rcases hb2 with h2 | h4
    · have h2i : (l.length : Int) < 2 := by omega
      go_enter Tryz.func162, Tryz.ntmps162
      go_wp2_with fail
      refine (HE.out.call fun κ1 hb hz => pfail_any 2 hb).mono ?_
      rintro r w2 ⟨rfl, he⟩
      have HE2 := Lib.hid he
      clear he cb ce cl
      have cb := Env.cell HE2.out HM1.out 0 _ rfl
      have ce := Env.cell HE2.out HM2.out 0 _ rfl
      have cl := Env.cell HE2.out HM3.out 0 _ rfl
      go_wp2_with fail
      refine (HE2.out.call fun κ1 hb hz => vector_no _ _ _ _ _ HN.out hb).mono ?_
      rintro r w3 ⟨rfl, he⟩
      have HE3 := Lib.hid he
      clear he
      go_wp2
      go_end0
      exact ⟨rfl, by rw [HY.out]; exact HE3.out.turn⟩
    · have h2i : ¬ (l.length : Int) < 2 := by omega
      have h4i : (l.length : Int) > 4 := by omega
      go_enter Tryz.func162, Tryz.ntmps162
      go_wp2_with fail
      refine (HE.out.call fun κ1 hb hz => pfail_any 2 hb).mono ?_
      rintro r w2 ⟨rfl, he⟩
      have HE2 := Lib.hid he
      clear he cb ce cl
      have cb := Env.cell HE2.out HM1.out 0 _ rfl
      have ce := Env.cell HE2.out HM2.out 0 _ rfl
      have cl := Env.cell HE2.out HM3.out 0 _ rfl
      go_wp2_with fail
      refine (HE2.out.call fun κ1 hb hz => vector_no _ _ _ _ _ HN.out hb).mono ?_
      rintro r w3 ⟨rfl, he⟩
      have HE3 := Lib.hid he
      clear he
      go_wp2
      go_end0
      exact ⟨rfl, by rw [HY.out]; exact HE3.out.turn⟩
  · have HY : Hid (x.fixed most elem l = x.vector most elem l.length l) := by show _ = _; unfold BS.fixed; rw [if_pos hx, if_neg hb2]
    have HF : Hid (VForm elem (l.length : Int) l) := .inr (.inr ⟨hne, rfl, by omega, hT _ (by omega) (by omega)⟩)
    have h2i : ¬ (l.length : Int) < 2 := by omega
    have h4i : ¬ (l.length : Int) > 4 := by omega
    clear he hv ha hlen hok hg hT hx
    go_enter Tryz.func162, Tryz.ntmps162
    go_wp2_with fail
    refine (HE.out.callT fun κ1 hb ht he => vector_any _ _ _ _ HF.out (vals_tn HVA.out.1 HVA.out.2 ht) (HVA.out.2.tn ht) HF2.out.1 HF2.out.2.1 HF2.out.2.2 hb).mono ?_
    rintro r w3 ⟨rfl, he⟩
    have HE3 := Lib.hid he
    clear he
    go_wp2
    go_end0
    exact ⟨rfl, by rw [HY.out]; exact HE3.out.turn⟩
theorem fixed_any {B : Nat} {q : Ptrs} {most flags : Int} {κ : Nat → Nat} {x : BS} {w : World} (elem : Int) (la : Option Addr) (lc : Nat) (l : List V3) (hne : elem ≠ -1) (hT : ∀ n : Nat, 2 ≤ n → n ≤ 4 → (typedF elem (n : Int)).2 = true) (hv : ValsAt w (.slice la l.length lc) l) (ha : Apart0 κ w (.slice la l.length lc)) (hlen : l.length ≤ 1048576) (hok : ∀ v ∈ l, okV v) (hg : x.Good) (h : Bd B q most flags κ x w) : Calls Tryz.prog 101 #[bptr q.p, .int .i64 elem, (.slice la l.length lc)] w fun r w' => r = .returned (.tuple #[]) ∧ TurnX B q most flags κ (x.fixed most elem l) w w' := by
  have HF := Lib.hid (And.intro hne hT)
  have HVA := Lib.hid (And.intro hv ha)
  have HF2 := Lib.hid (And.intro hlen (And.intro hok hg))
  have HE : Hid (Env B q most flags w κ [(w.heap.size + 2, Obj.cells #[(.slice la l.length lc)] 51 (0, 0)), (w.heap.size + 1, Obj.cells #[.int .i64 elem] 3 (0, 0)), (w.heap.size, Obj.cells #[bptr q.p] 23 (0, 0))] x (((w.alloc (.cells #[bptr q.p] 23)).alloc (.cells #[.int .i64 elem] 3)).alloc (.cells #[(.slice la l.length lc)] 51))) := by
    have hh := (((Env.start h).add (.cells #[bptr q.p] 23)).add (.cells #[.int .i64 elem] 3)).add (.cells #[(.slice la l.length lc)] 51)
    simp only [World.size_alloc, Nat.add_assoc, Nat.reduceAdd] at hh
    exact hh
  clear h hne hT hv ha hlen hok hg
  go_enter Tryz.func101, Tryz.ntmps101
  go_wp2_with fail
  refine (HE.out.callT fun κ1 hb ht he => unless_any hb _ _ (x.fixed most elem l) (fun hx => by unfold BS.fixed; rw [if_neg hx]) (fun _ => enters_of Tryz.func162 (by kernel_rfl) rfl _ _) (fun hx => fixed1_any _ _ _ _ _ _ _ HF.out.1 HF.out.2 (vals_tn HVA.out.1 HVA.out.2 ht) (HVA.out.2.tn ht) HF2.out.1 HF2.out.2.1 HF2.out.2.2 hx he)).mono ?_
  rintro r w5 ⟨rfl, he⟩
  have HT := Lib.hid he
  clear he
  go_wp2
  go_end0
  exact ⟨rfl, HT.out.turn⟩
theorem fixT1 : ∀ n : Nat, 2 ≤ n → n ≤ 4 → (typedF 1 (n : Int)).2 = true := fun n h2 h4 => by
  obtain rfl | rfl | rfl : n = 2 ∨ n = 3 ∨ n = 4 := by omega
  · show (typedF 1 2).2 = true
    kernel_rfl
  · show (typedF 1 3).2 = true
    kernel_rfl
  · show (typedF 1 4).2 = true
    kernel_rfl
theorem fixT2 : ∀ n : Nat, 2 ≤ n → n ≤ 4 → (typedF 2 (n : Int)).2 = true := fun n h2 h4 => by
  obtain rfl | rfl | rfl : n = 2 ∨ n = 3 ∨ n = 4 := by omega
  · show (typedF 2 2).2 = true
    kernel_rfl
  · show (typedF 2 3).2 = true
    kernel_rfl
  · show (typedF 2 4).2 = true
    kernel_rfl
theorem bfixints_any {B : Nat} {q : Ptrs} {most flags : Int} {κ : Nat → Nat} {x : BS} {w : World} (l : List Int) (lv : Value) (hp : CellsAt (fun x => .int .i64 x) w lv l) (hb : ∀ x ∈ l, -9223372036854775808 ≤ x ∧ x ≤ 9223372036854775807) (hl : l.length ≤ 1048576) (hg : x.Good) (h : Bd B q most flags κ x w) : Calls Tryz.prog 48 #[bptr q.p, lv] w fun r w' => r = .returned (.tuple #[]) ∧ TurnX B q most flags κ (x.fixed most 1 (l.map numV)) w w' := by
  have HB := Lib.hid h
  have HH := Lib.hid hg
  have HL := Lib.hid hl
  have HOK : Hid (∀ v ∈ l.map numV, okV v) := by
    intro v hv
    obtain ⟨x, hx, rfl⟩ := List.mem_map.1 hv
    exact numV_ok x (hb x hx).1 (hb x hx).2
  have HM := Lib.hid (mapI_any l lv w hp hb hl)
  have hp0 := hp
  obtain ⟨la, lc, rfl, _⟩ := hp0
  clear h hg hp hb hl
  go_enter Tryz.func48, Tryz.ntmps48
  go_wp2_with fail
  refine HM.out.mono ?_
  rintro r w1 ⟨v', rfl, ho, hgr⟩
  have HO := Lib.hid (And.intro ho hgr)
  clear ho hgr
  go_wp2_with fail
  obtain ⟨va, vc, rfl, _⟩ := own_form HO.out.1
  refine (fixed_any 1 va vc (l.map numV) (by decide) fixT1 HO.out.1.vals (apart_own HB.out HO.out.1 HO.out.2) (by rw [List.length_map]; exact HL.out) HOK.out HH.out (HB.out.grew HO.out.2)).mono ?_
  rintro r w2 ⟨rfl, ht⟩
  have HT := Lib.hid (ht.after HO.out.2)
  clear ht
  go_wp2
  go_end0
  exact ⟨rfl, HT.out⟩
theorem bfixuints_any {B : Nat} {q : Ptrs} {most flags : Int} {κ : Nat → Nat} {x : BS} {w : World} (l : List Int) (lv : Value) (hp : CellsAt (fun x => .int .u64 x) w lv l) (hb : ∀ x ∈ l, 0 ≤ x ∧ x ≤ 18446744073709551615) (hl : l.length ≤ 1048576) (hg : x.Good) (h : Bd B q most flags κ x w) : Calls Tryz.prog 49 #[bptr q.p, lv] w fun r w' => r = .returned (.tuple #[]) ∧ TurnX B q most flags κ (x.fixed most 2 (l.map unsV)) w w' := by
  have HB := Lib.hid h
  have HH := Lib.hid hg
  have HL := Lib.hid hl
  have HOK : Hid (∀ v ∈ l.map unsV, okV v) := by
    intro v hv
    obtain ⟨x, hx, rfl⟩ := List.mem_map.1 hv
    exact unsV_ok x (hb x hx).1 (hb x hx).2
  have HM := Lib.hid (mapU_any l lv w hp hb hl)
  have hp0 := hp
  obtain ⟨la, lc, rfl, _⟩ := hp0
  clear h hg hp hb hl
  go_enter Tryz.func49, Tryz.ntmps49
  go_wp2_with fail
  refine HM.out.mono ?_
  rintro r w1 ⟨v', rfl, ho, hgr⟩
  have HO := Lib.hid (And.intro ho hgr)
  clear ho hgr
  go_wp2_with fail
  obtain ⟨va, vc, rfl, _⟩ := own_form HO.out.1
  refine (fixed_any 2 va vc (l.map unsV) (by decide) fixT2 HO.out.1.vals (apart_own HB.out HO.out.1 HO.out.2) (by rw [List.length_map]; exact HL.out) HOK.out HH.out (HB.out.grew HO.out.2)).mono ?_
  rintro r w2 ⟨rfl, ht⟩
  have HT := Lib.hid (ht.after HO.out.2)
  clear ht
  go_wp2
  go_end0
  exact ⟨rfl, HT.out⟩
end Go.Proofs.YtjnpcddbgfmpcaaGreat

/-
  The builder in memory: from, EndVec. Conditions: the builder lies in memory.
-/
namespace Go.Proofs.YtjnpcddbgfmpcaaGreat
open Go Go.ChangeShapes Go.WideShapes Go.ChangeAt Go.RowKit Go.Joins Go.Deep
open Go.Proofs.YtjnpcddbgfmpcaaGreat.Ft (V3 vV okV ValsAt inlineB legalB packF codeF typedF allF)
set_option linter.unusedVariables false
set_option linter.unusedSimpArgs false
theorem bfrom_any {B : Nat} {q : Ptrs} {most flags : Int} {κ : Nat → Nat} {x : BS} {w : World} (start : Int) (h : Bd B q most flags κ x w) : Calls Tryz.prog 61 #[bptr q.p, .int .i64 start] w fun r w' => (InR start x.stk.length ∧ ∃ v', r = .returned v' ∧ OwnVals w' w.heap.size v' (x.stk.drop start.toNat) ∧ Grew w w') ∨ (¬ InR start x.stk.length ∧ r = .returned (.slice none 0 0) ∧ TurnX B q most flags κ (x.fail 2) w w') := by
  have HB := Lib.hid h
  have c1 := h.at1
  clear h
  go_enter Tryz.func61, Tryz.ntmps61
  go_wp2_with fail
  refine (sFrom_any start HB.out.stk HB.out.ok.stk).mono ?_
  rintro r w1 (⟨hin, v', rfl, ho, hg⟩ | ⟨hin, rfl, hw⟩)
  · obtain ⟨L, hL⟩ : ∃ L, x.stk.drop start.toNat = L := ⟨_, rfl⟩
    rw [hL] at ho
    have HL := Lib.hid hL
    have HO := Lib.hid (And.intro ho hg)
    have HIN := Lib.hid hin
    obtain ⟨va, vc, rfl, _⟩ := own_form ho
    clear ho hg hin hL
    go_wp2
    go_ret
    exact .inl ⟨HIN.out, .slice va L.length vc, rfl, by rw [HL.out]; exact HO.out.1, HO.out.2⟩
  · obtain rfl : w = w1 := hw.symm
    have HIN := Lib.hid hin
    clear hin
    go_wp2_with fail
    refine (pfail_any 2 HB.out).mono ?_
    rintro r w2 ⟨rfl, ht⟩
    have HT := Lib.hid ht
    clear ht
    go_wp2
    go_ret
    exact .inr ⟨HIN.out, rfl, HT.out⟩
theorem TurnX.base {B : Nat} {q : Ptrs} {most flags : Int} {κ κ1 : Nat → Nat} {y : BS} {w w1 w2 : World} (ht : Tn κ κ1 w w) (hg : Grew w w1) (h : TurnX B q most flags κ1 y w1 w2) : TurnX B q most flags κ y w w2 := by
  obtain ⟨κ2, k1, k2⟩ := h
  exact ⟨κ2, k1, ht.trans ((Tn.of_grew hg).trans k2)⟩
theorem Env.open_ {B : Nat} {q : Ptrs} {most flags : Int} {κ : Nat → Nat} {x : BS} {w : World} {Kp : List (Nat × Obj)} (h : Env B q most flags w κ Kp x w) : ∃ κ1, Bd B q most flags κ1 x w ∧ Tn κ κ1 w w ∧ (∀ z ∈ Kp, κ1 z.1 = 0) ∧ ∀ w1, Grew w w1 → Env B q most flags w1 κ1 Kp x w1 := by
  obtain ⟨κ1, h1, h2, h3⟩ := h
  exact ⟨κ1, h1, h2, fun z hz => (h3 z hz).2, fun w1 hg => ⟨κ1, h1.grew hg, Tn.refl _ _, fun z hz => ⟨hg.heap (h3 z hz).1, (h3 z hz).2⟩⟩⟩
theorem bpop_any {B : Nat} {q : Ptrs} {most flags : Int} {κ : Nat → Nat} {x : BS} {w : World} (n : Nat) (h : Bd B q most flags κ x w) (hn : n ≤ x.stk.length) : Calls Tryz.prog 62 #[bptr q.s, .int .i64 n] w fun r w' => (∃ v' : Value, r = .returned (.tuple #[v', .int .i64 0])) ∧ TurnX B q most flags κ { x with stk := x.stk.take (x.stk.length - n) } w w' :=
  (spop_any n h.stk h.ok.stk hn).mono fun r w' ⟨v', e, _, ht⟩ => ⟨⟨v', e⟩, h.stk_step (by rw [List.length_take]; have := h.ok.stk; omega) (fun v hv => h.ok.okS v (List.mem_of_mem_take hv)) ht⟩
set_option maxRecDepth 100000 in
theorem endvec1_any {B : Nat} {q : Ptrs} {most flags : Int} {κ : Nat → Nat} {x : BS} {w : World} (n1 n2 : Nat) (start : Int) (hg : x.Good) (hx : x.e = 0) (he : Env B q most flags w κ [(n2, Obj.cells #[.int .i64 start] 3 (0, 0)), (n1, Obj.cells #[bptr q.p] 23 (0, 0))] x w) : Calls Tryz.prog 60 #[.pointer (some ⟨n1, 0, none⟩), .pointer (some ⟨n2, 0, none⟩)] w fun r w' => r = .returned (.tuple #[]) ∧ TurnX B q most flags κ (x.endVec most start) w w' := by
  have HM2 : Hid ((n2, Obj.cells #[.int .i64 start] 3 (0, 0)) ∈ ([(n2, Obj.cells #[.int .i64 start] 3 (0, 0)), (n1, Obj.cells #[bptr q.p] 23 (0, 0))] : List (Nat × Obj))) := List.mem_cons_self
  have HM1 : Hid ((n1, Obj.cells #[bptr q.p] 23 (0, 0)) ∈ ([(n2, Obj.cells #[.int .i64 start] 3 (0, 0)), (n1, Obj.cells #[bptr q.p] 23 (0, 0))] : List (Nat × Obj))) := List.mem_cons_of_mem _ (List.mem_cons_self)
  have cb := Env.cell he HM1.out 0 _ rfl
  have cs := Env.cell he HM2.out 0 _ rfl
  obtain ⟨κ1, hb, ht, hz, hall⟩ := he.open_
  have HB := Lib.hid hb
  have HTN := Lib.hid ht
  have HALL := Lib.hid hall
  have HZ := Lib.hid hz
  have HE0 := Lib.hid he
  have HG := Lib.hid hg
  have HX := Lib.hid hx
  clear he hb ht hall hz hg hx
  go_enter Tryz.func60, Tryz.ntmps60
  go_wp2_with fail
  refine (bfrom_any start HB.out).mono ?_
  rintro r w1 (⟨hin, v', rfl, ho, hgr⟩ | ⟨hin, rfl, ht⟩)
  · have HGR := Lib.hid hgr
    have HO := Lib.hid ho
    have HIN := Lib.hid hin
    have HE1 := Lib.hid (HALL.out w1 hgr)
    have HY : Hid (x.endVec most start = ({ x with stk := x.stk.take start.toNat } : BS).vector most (-1) 0 (x.stk.drop start.toNat)) := by show _ = _; unfold BS.endVec; rw [if_pos HX.out, if_pos (show 0 ≤ start ∧ start ≤ (x.stk.length : Int) from hin)]
    have HG2 : Hid (BS.Good { x with stk := x.stk.take start.toNat }) := ⟨HG.out.s0, HG.out.nm, HG.out.ks, HG.out.ts, HG.out.ls, HG.out.vs, HG.out.ix, HG.out.nz⟩
    have HLE : Hid ((x.stk.drop start.toNat).length ≤ x.stk.length) := by show _ ≤ _; rw [List.length_drop]; omega
    have HTK : Hid (x.stk.take (x.stk.length - (x.stk.drop start.toNat).length) = x.stk.take start.toNat) := by show _ = _; have h1 := hin.1; have h2 := hin.2; rw [List.length_drop]; congr 1; omega
    have HOK : Hid (∀ v ∈ x.stk.drop start.toNat, okV v) := fun v hv => HB.out.ok.okS v (List.mem_of_mem_drop hv)
    have HSL : Hid ((x.stk.drop start.toNat).length ≤ 1048576) := by show _ ≤ _; have := HLE.out; have := HB.out.ok.stk; omega
    obtain ⟨va, vc, rfl, _⟩ := own_form ho
    generalize x.stk.drop start.toNat = L at *
    clear ho hin hgr cb cs
    have cb := Env.cell HE1.out HM1.out 0 _ rfl
    have cs := Env.cell HE1.out HM2.out 0 _ rfl
    have c1 := HE1.out.at1
    have c2 := HE1.out.at2
    rw [HX.out] at c2
    go_wp2_with fail
    refine (HE1.out.call fun κ2 hb hz => bpop_any L.length hb HLE.out).mono ?_
    rintro r w2 ⟨⟨v'', rfl⟩, he⟩
    rw [HTK.out] at he
    have HE2 := Lib.hid he
    clear he cb cs c1 c2
    have cb := Env.cell HE2.out HM1.out 0 _ rfl
    go_wp2_with fail
    refine (HE2.out.callT fun κ2 hb ht he => vector_any (-1) 0 (.slice va L.length vc) L (.inl ⟨rfl, rfl⟩) (vals_tn HO.out.vals (apart_own HB.out HO.out HGR.out) ht) ((apart_own HB.out HO.out HGR.out).tn ht) HSL.out HOK.out HG2.out hb).mono ?_
    rintro r w3 ⟨rfl, he⟩
    have HE3 := Lib.hid he
    clear he
    go_wp2
    go_end0
    exact ⟨rfl, by rw [HY.out]; exact (HE3.out.turn).base HTN.out HGR.out⟩
  · have HY : Hid (x.endVec most start = x.fail 2) := by show _ = _; unfold BS.endVec; rw [if_pos HX.out, if_neg (show ¬ (0 ≤ start ∧ start ≤ (x.stk.length : Int)) from hin)]
    have HN : Hid ((x.fail 2).e = 2) := by show _ = _; unfold BS.fail failS; rw [if_pos HX.out]
    have HNE : Hid ((x.fail 2).e ≠ 0) := by show _ ≠ _; rw [HN.out]; decide
    have HNE : Hid ((x.fail 2).e ≠ 0) := by show _ ≠ _; rw [HN.out]; decide
    have HE1 : Hid (Env B q most flags w κ [(n2, Obj.cells #[.int .i64 start] 3 (0, 0)), (n1, Obj.cells #[bptr q.p] 23 (0, 0))] (x.fail 2) w1) := by
      obtain ⟨κ2, k1, k2⟩ := ht
      have h0 := HALL.out w (Grew.refl w)
      exact ⟨κ2, k1, HTN.out.trans k2, fun z hz => ⟨k2.1.heap (h0.kp (n := z.1) (o := z.2) hz) (fun e => e (HZ.out z hz)), (k2.2 z.1 (Array.getElem?_eq_some_iff.1 (h0.kp (n := z.1) (o := z.2) hz)).1).trans (HZ.out z hz)⟩⟩
    clear ht hin cb cs
    have cb := Env.cell HE1.out HM1.out 0 _ rfl
    have c2 := HE1.out.at2
    rw [HN.out] at c2
    go_wp2_with fail
    refine (HE1.out.call fun κ2 hb hz => vector_no _ _ _ _ _ HNE.out hb).mono ?_
    rintro r w3 ⟨rfl, he⟩
    have HE3 := Lib.hid he
    clear he
    go_wp2
    go_end0
    exact ⟨rfl, by rw [HY.out]; exact HE3.out.turn⟩
theorem bendvec_any {B : Nat} {q : Ptrs} {most flags : Int} {κ : Nat → Nat} {x : BS} {w : World} (start : Int) (hg : x.Good) (h : Bd B q most flags κ x w) : Calls Tryz.prog 16 #[bptr q.p, .int .i64 start] w fun r w' => r = .returned (.tuple #[]) ∧ TurnX B q most flags κ (x.endVec most start) w w' := by
  have HH := Lib.hid hg
  have HE : Hid (Env B q most flags w κ [(w.heap.size + 1, Obj.cells #[.int .i64 start] 3 (0, 0)), (w.heap.size, Obj.cells #[bptr q.p] 23 (0, 0))] x ((w.alloc (.cells #[bptr q.p] 23)).alloc (.cells #[.int .i64 start] 3))) := by
    have hh := ((Env.start h).add (.cells #[bptr q.p] 23)).add (.cells #[.int .i64 start] 3)
    simp only [World.size_alloc, Nat.add_assoc, Nat.reduceAdd] at hh
    exact hh
  clear h hg
  go_enter Tryz.func16, Tryz.ntmps16
  go_wp2_with fail
  refine (HE.out.call' fun κ1 hb he => unless_any hb _ _ (x.endVec most start) (fun hx => by unfold BS.endVec; rw [if_neg hx]) (fun _ => enters_of Tryz.func60 (by kernel_rfl) rfl _ _) (fun hx => endvec1_any _ _ _ HH.out hx he)).mono ?_
  rintro r w5 ⟨rfl, he⟩
  have HT := Lib.hid he
  clear he
  go_wp2
  go_end0
  exact ⟨rfl, HT.out.turn⟩
end Go.Proofs.YtjnpcddbgfmpcaaGreat

/-
  The builder, plain: what holds between calls is kept by each step.
-/
namespace Go.Proofs.YtjnpcddbgfmpcaaGreat
open Go Go.ChangeShapes Go.WideShapes Go.ChangeAt Go.RowKit Go.Joins Go.Deep
open Go.Proofs.YtjnpcddbgfmpcaaGreat.Ft (V3 vV okV ValsAt inlineB legalB packF codeF typedF allF oneF)
set_option linter.unusedVariables false
set_option linter.unusedSimpArgs false
namespace BS.Good
theorem stuck {x : BS} (h : x.e ≠ 0) : x.Good := ⟨fun e => absurd e h, fun e => absurd e h, fun e => absurd e h, fun e => absurd e h, fun e => absurd e h, fun e => absurd e h, fun e => absurd e h, fun e => absurd e h⟩
theorem fail {x : BS} {e : Int} (h : x.Good) : (x.fail e).Good := by
  by_cases hx : x.e = 0
  · have he : x.fail e = { x with e := e } := by unfold BS.fail failS; rw [if_pos hx]
    rw [he]
    exact ⟨fun _ => h.s0 hx, fun _ => h.nm hx, fun _ => h.ks hx, fun _ => h.ts hx, fun _ => h.ls hx, fun _ => h.vs hx, fun _ => h.ix hx, fun _ => h.nz hx⟩
  · have he : x.fail e = x := by unfold BS.fail failS; rw [if_neg hx]
    rw [he]; exact h
theorem push {x : BS} {v : V3} (h : x.Good) : (x.push v).Good := by
  unfold BS.push
  by_cases hf : failS x.e x.s.2 = 0
  · rw [if_pos hf]
    have hx : x.e = 0 := by
      unfold failS at hf
      split at hf
      · assumption
      · exact hf
    split
    · exact ⟨fun _ => h.s0 hx, fun _ => h.nm hx, fun _ => h.ks hx, fun _ => h.ts hx, fun _ => h.ls hx, fun _ => h.vs hx, fun _ => h.ix hx, fun _ => h.nz hx⟩
    · exact stuck (by show (5 : Int) ≠ 0; decide)
  · rw [if_neg hf]
    exact stuck hf
theorem inline {x : BS} {v : V3} (h : x.Good) : (x.inline v).Good := by
  unfold BS.inline
  split
  · exact h.push
  · exact h
end BS.Good
theorem putS_ge {most : Int} {y : List UInt8} {s : St} : s.1.length ≤ (putS most y s).1.length := by
  show _ ≤ (putL s.1 y most s.2).length
  unfold putL
  repeat' split
  all_goals simp
theorem alignS_ge {most x : Int} {s : St} : s.1.length ≤ (alignS most x s).1.length := by
  unfold alignS
  split
  · exact putS_ge
  · exact Nat.le_refl _
theorem numS_ge {most x u : Int} {s : St} : s.1.length ≤ (numS most x u s).1.length := by
  unfold numS
  repeat' split
  · exact putS_ge
  · exact Nat.le_refl _
  · exact Nat.le_refl _
namespace BS.Good
theorem push_buf {x : BS} {s' : St} {v : V3} (h : x.Good) (hx : x.e = 0) (hl : x.s.1.length ≤ s'.1.length) : (({ x with s := s' } : BS).push v).Good := by
  unfold BS.push
  dsimp only
  by_cases hf : failS x.e s'.2 = 0
  · rw [if_pos hf]
    have hs : s'.2 = 0 := by
      unfold failS at hf
      rw [if_pos hx] at hf
      exact hf
    split
    · exact ⟨fun _ => hs, fun _ z hz => Int.lt_of_lt_of_le (h.nm hx z hz) (by show (_ : Int) ≤ _; exact_mod_cast hl), fun _ => Nat.le_trans (h.ks hx) hl, fun _ => Nat.le_trans (h.ts hx) hl, fun _ => Nat.le_trans (h.ls hx) hl, fun _ => Nat.le_trans (h.vs hx) hl, fun _ => h.ix hx, fun _ z hz => Nat.le_trans (h.nz hx z hz) hl⟩
    · exact stuck (by show (5 : Int) ≠ 0; decide)
  · rw [if_neg hf]
    exact stuck hf
theorem apart {x : BS} {most t : Int} {v : V3} (h : x.Good) : (x.apart most t v).Good := by
  unfold BS.apart
  by_cases hx : x.e = 0
  · rw [if_pos hx]
    exact h.push_buf hx (Nat.le_trans alignS_ge numS_ge)
  · rw [if_neg hx]; exact h
end BS.Good
theorem putS_zero {most : Int} {y : List UInt8} {s : St} (h : (putS most y s).2 = 0) : s.2 = 0 ∧ (putS most y s).1 = s.1 ++ y := by
  have h1 : (if s.2 = 0 ∧ ¬ (y.length : Int) ≤ most - s.1.length then (5 : Int) else s.2) = 0 := h
  split at h1
  · cases h1
  · rename_i hn
    refine ⟨h1, ?_⟩
    show (if s.2 = 0 ∧ (y.length : Int) ≤ most - s.1.length then s.1 ++ y else s.1) = _
    rw [if_pos ⟨h1, Decidable.byContradiction fun hk => hn ⟨h1, hk⟩⟩]
theorem bytesS_pos (k : ByteArray) : 1 ≤ (bytesS [k, ⟨#[0]⟩]).length := by
  simp [bytesS]
namespace BS.Good
theorem put {x : BS} {most : Int} {sh : Bool} {k : ByteArray} (h : x.Good) : (x.put most sh k).2.Good := by
  unfold BS.put
  dsimp only
  by_cases hf : (x.fail (keyE k)).e ≠ 0
  · rw [if_pos hf]; exact h.fail
  · rw [if_neg hf]
    by_cases hg : ((getP x.keys k).2 && sh) = true
    · rw [if_pos hg]; exact h.fail
    · rw [if_neg hg]
      have hf0 : failS x.e (keyE k) = 0 := Decidable.byContradiction hf
      have hx : x.e = 0 := by
        unfold failS at hf0
        split at hf0
        · assumption
        · exact hf0
      have hxx : x.fail (keyE k) = { x with e := keyE k } := by unfold BS.fail failS; rw [if_pos hx]
      rw [hxx]
      have hp := putP_length k (x.s.1.length : Int) x.keys
      have hb := bytesS_pos k
      refine ⟨fun e => e, fun e => ?_, fun e => ?_, fun e => ?_, fun e => ?_, fun e => ?_, fun _ => h.ix hx, fun e => ?_⟩
      rotate_left 5
      all_goals
        have hs := (putS_zero e).2
        have hl : (putS most (bytesS [k, ⟨#[0]⟩]) x.s).1.length = x.s.1.length + (bytesS [k, ⟨#[0]⟩]).length := by rw [hs, List.length_append]
        have h1 := h.nm hx
        have h2 := h.ks hx
        have h3 := h.ts hx
        have h4 := h.ls hx
        have h5 := h.vs hx
      · intro z hz
        show z.2.size ≤ (putS most (bytesS [k, ⟨#[0]⟩]) x.s).1.length
        rcases List.mem_append.1 hz with hz | hz
        · have := h.nz hx z hz; omega
        · obtain rfl := List.mem_singleton.1 hz
          have hk2 : (bytesS [k, ⟨#[0]⟩]).length = k.size + 1 := by
            have h : (bytesS [k, ⟨#[0]⟩]).length = k.data.size + 1 := by simp [bytesS]
            exact h
          show k.size ≤ _
          omega
      · intro z hz
        show z.1 < ((putS most (bytesS [k, ⟨#[0]⟩]) x.s).1.length : Int)
        rcases List.mem_append.1 hz with hz | hz
        · have := h1 z hz; omega
        · obtain rfl := List.mem_singleton.1 hz
          show (x.s.1.length : Int) < _
          omega
      all_goals
        show _ ≤ (putS most (bytesS [k, ⟨#[0]⟩]) x.s).1.length
        dsimp only
        omega
theorem key {x : BS} {most : Int} {sh : Bool} {k : ByteArray} (h : x.Good) : (x.key most sh k).Good := by
  unfold BS.key
  split
  · exact h.put.push
  · exact h
theorem push_of {y : BS} {v : V3} (h : y.e = 0 → y.s.2 = 0 → y.Good) : (y.push v).Good := by
  by_cases hf : failS y.e y.s.2 = 0
  · have hx : y.e = 0 ∧ y.s.2 = 0 := by
      unfold failS at hf
      split at hf
      · exact ⟨by assumption, hf⟩
      · rename_i hn; exact absurd hf hn
    exact (h hx.1 hx.2).push
  · unfold BS.push
    rw [if_neg hf]
    exact stuck hf
theorem text {x : BS} {most t : Int} {k z : ByteArray} (h : x.Good) (hx : x.e = 0) (hz : t = 5 → z = ⟨#[0]⟩) : (x.text most t k z).Good := by
  unfold BS.text
  dsimp only
  refine push_of fun _ e => ?_
  have h0 := (putS_zero e).2
  have hl0 : x.s.1.length ≤ (numS most (Ft.widthOf k.size) k.size (alignS most (Ft.widthOf k.size) x.s)).1.length := Nat.le_trans alignS_ge numS_ge
  generalize numS most (Ft.widthOf k.size) k.size (alignS most (Ft.widthOf k.size) x.s) = s1 at *
  have hl : (putS most (bytesS [k, z]) s1).1.length = s1.1.length + (bytesS [k, z]).length := by rw [h0, List.length_append]
  have h1 := h.nm hx
  have h2 := h.ks hx
  have h3 := h.ts hx
  have h4 := h.ls hx
  have h5 := h.vs hx
  refine ⟨fun _ => e, fun _ z' hz' => ?_, fun _ => ?_, fun _ => ?_, fun _ => ?_, fun _ => ?_, fun _ => h.ix hx, fun _ z' hz' => ?_⟩
  · show z'.1 < ((putS most (bytesS [k, z]) s1).1.length : Int)
    have := h1 z' hz'
    omega
  · show x.keys.length ≤ (putS most (bytesS [k, z]) s1).1.length
    omega
  · show (if t = 5 then putP k (s1.1.length : Int) x.texts else x.texts).length ≤ (putS most (bytesS [k, z]) s1).1.length
    by_cases ht : t = 5
    · rw [if_pos ht]
      have hp := putP_length k (s1.1.length : Int) x.texts
      have hb := bytesS_pos k
      rw [hz ht] at hl ⊢
      omega
    · rw [if_neg ht]
      omega
  · show x.lists.length ≤ (putS most (bytesS [k, z]) s1).1.length
    omega
  · show x.vals.length ≤ (putS most (bytesS [k, z]) s1).1.length
    omega
  · show z'.2.size ≤ (putS most (bytesS [k, z]) s1).1.length
    have := h.nz hx z' hz'
    omega
theorem str {x : BS} {most : Int} {sh : Bool} {k : ByteArray} (h : x.Good) : (x.str most sh k).Good := by
  unfold BS.str
  dsimp only
  by_cases hx : x.e = 0
  · rw [if_pos hx]
    split
    · exact h.push
    · exact h.text hx fun _ => rfl
  · rw [if_neg hx]; exact h
theorem blob {x : BS} {most : Int} {k : ByteArray} (h : x.Good) : (x.blob most k).Good := by
  unfold BS.blob
  by_cases hx : x.e = 0
  · rw [if_pos hx]
    exact h.text hx fun e => absurd e (by decide)
  · rw [if_neg hx]; exact h
end BS.Good
theorem elemS_ge {most x : Int} {v : V3} {s : St} : s.1.length ≤ (elemS most x s v).1.length := by
  unfold elemS
  split
  · exact numS_ge
  · exact numS_ge
theorem elemsS_ge {most x : Int} : ∀ (l : List V3) (s : St), s.1.length ≤ (elemsS most x l s).1.length
  | [], _ => Nat.le_refl _
  | v :: r, s => Nat.le_trans elemS_ge (elemsS_ge r (elemS most x s v))
theorem tagsS_ge {most x : Int} : ∀ (l : List V3) (s : St), s.1.length ≤ (tagsS most x l s).1.length
  | [], _ => Nat.le_refl _
  | v :: r, s => Nat.le_trans (show s.1.length ≤ (tagS most x s v).1.length from putS_ge) (tagsS_ge r (tagS most x s v))
theorem putF_ge {most : Int} {T : V3 → Int} {len tagged : Bool} {kind e0 : Int} {l : List V3} {s : St} : s.1.length ≤ (putF most T len tagged kind e0 l s).2.1.length := by
  unfold putF
  dsimp only
  by_cases ha : eachL T e0 l ≠ 0
  · rw [if_pos ha]; exact Nat.le_refl _
  rw [if_neg ha]
  generalize allF l (0, 0, 0) s.1.length (if len = true then 1 else 0) = X
  by_cases hb : X = 0
  · rw [if_pos hb]; exact Nat.le_refl _
  rw [if_neg hb]
  have h1 : s.1.length ≤ (alignS most X s).1.length := alignS_ge
  have h2 : s.1.length ≤ (if len = true then numS most X l.length (alignS most X s) else alignS most X s).1.length := by
    split
    · exact Nat.le_trans h1 numS_ge
    · exact h1
  have h3 := Nat.le_trans h2 (elemsS_ge (most := most) (x := X) l _)
  have h4 : s.1.length ≤ (if tagged = true then tagsS most X l (elemsS most X l (if len = true then numS most X l.length (alignS most X s) else alignS most X s)) else elemsS most X l (if len = true then numS most X l.length (alignS most X s) else alignS most X s)).1.length := by
    split
    · exact Nat.le_trans h3 (tagsS_ge l _)
    · exact h3
  generalize (if tagged = true then tagsS most X l (elemsS most X l (if len = true then numS most X l.length (alignS most X s) else alignS most X s)) else elemsS most X l (if len = true then numS most X l.length (alignS most X s) else alignS most X s)) = s4 at h4 ⊢
  by_cases hc : s4.2 ≠ 0
  · rw [if_pos hc]; exact h4
  · rw [if_neg hc]; exact h4
theorem vputF_ge {most elem many : Int} {l : List V3} {s : St} : s.1.length ≤ (vputF most elem many l s).2.1.length := by
  unfold vputF
  split
  · exact putF_ge
  · exact putF_ge
namespace BS.Good
theorem vector {x : BS} {most elem many : Int} {l : List V3} (h : x.Good) : (x.vector most elem many l).Good := by
  unfold BS.vector
  dsimp only
  by_cases hx : x.e = 0
  · rw [if_pos hx]
    refine push_of fun _ e => ?_
    have hs : (vputF most elem many l x.s).2.2 = 0 := e
    have hl := vputF_ge (most := most) (elem := elem) (many := many) (l := l) (s := x.s)
    refine fail ⟨fun _ => hs, fun _ z hz => ?_, fun _ => Nat.le_trans (h.ks hx) hl, fun _ => Nat.le_trans (h.ts hx) hl, fun _ => Nat.le_trans (h.ls hx) hl, fun _ => Nat.le_trans (h.vs hx) hl, fun _ => h.ix hx, fun _ z hz => Nat.le_trans (h.nz hx z hz) hl⟩
    have := h.nm hx z hz
    show z.1 < ((vputF most elem many l x.s).2.1.length : Int)
    omega
  · rw [if_neg hx]; exact h
theorem putAll {most : Int} {sh : Bool} : ∀ (l : List ByteArray) {x : BS}, x.Good → (x.putAll most sh l).2.Good
  | [], _, h => h
  | _ :: r, _, h => putAll r h.put
theorem keyVec {x : BS} {most : Int} {sh : Bool} {l : List ByteArray} (h : x.Good) : (x.keyVec most sh l).Good := by
  unfold BS.keyVec
  split
  · exact (putAll l h).vector
  · exact h
theorem fixed {x : BS} {most elem : Int} {l : List V3} (h : x.Good) : (x.fixed most elem l).Good := by
  unfold BS.fixed
  split
  · split
    · exact h.fail
    · exact h.vector
  · exact h
theorem stk {x : BS} (h : x.Good) (l : List V3) : ({ x with stk := l } : BS).Good := ⟨h.s0, h.nm, h.ks, h.ts, h.ls, h.vs, h.ix, h.nz⟩
theorem endVec {x : BS} {most start : Int} (h : x.Good) : (x.endVec most start).Good := by
  unfold BS.endVec
  split
  · split
    · exact (h.stk _).vector
    · exact h.fail
  · exact h
end BS.Good
theorem putS_err {most : Int} {y : List UInt8} {s : St} (h : (putS most y s).2 = 0) : s.2 = 0 := (putS_zero h).1
theorem failP_err {x : Int} {s : St} (hx : x ≠ 0) (h : (failP x s).2 = 0) : s.2 = 0 ∧ False := by
  have h1 : failS s.2 x = 0 := h
  unfold failS at h1
  split at h1
  · exact absurd h1 hx
  · rename_i hn; exact absurd h1 hn
theorem numS_err {most x u : Int} {s : St} (h : (numS most x u s).2 = 0) : s.2 = 0 ∧ (numS most x u s).1.length = s.1.length + x.toNat ∧ isW x = true := by
  unfold numS at h ⊢
  by_cases hw : isW x = true
  · rw [if_pos hw] at h ⊢
    by_cases hf : fitU x u = true
    · rw [if_pos hf] at h ⊢
      have := putS_zero h
      exact ⟨this.1, by rw [this.2, List.length_append, length_digB], hw⟩
    · rw [if_neg hf] at h
      exact (failP_err (by decide) h).2.elim
  · rw [if_neg hw] at h
    exact (failP_err (by decide) h).2.elim
theorem elemsS_err {most x : Int} : ∀ (l : List V3) {s : St}, (elemsS most x l s).2 = 0 → s.2 = 0
  | [], _, h => h
  | v :: r, s, h => by
    have h1 := elemsS_err r (s := elemS most x s v) h
    unfold elemS at h1
    split at h1
    · exact (numS_err h1).1
    · exact (numS_err h1).1
theorem tagsS_err {most x : Int} : ∀ (l : List V3) {s : St}, (tagsS most x l s).2 = 0 → s.2 = 0
  | [], _, h => h
  | v :: r, s, h => putS_err (tagsS_err r (s := tagS most x s v) h)
theorem putF_gt {most : Int} {T : V3 → Int} {tagged : Bool} {kind e0 : Int} {l : List V3} {s : St} (h : (putF most T true tagged kind e0 l s).1.2 = 0) : s.1.length < (putF most T true tagged kind e0 l s).2.1.length ∧ (putF most T true tagged kind e0 l s).2.2 = 0 := by
  unfold putF at h ⊢
  dsimp only at h ⊢
  by_cases ha : eachL T e0 l ≠ 0
  · rw [if_pos ha] at h; exact absurd h ha
  rw [if_neg ha] at h ⊢
  simp only [if_true] at h ⊢
  generalize allF l (0, 0, 0) s.1.length 1 = X at h ⊢
  by_cases hb : X = 0
  · rw [if_pos hb] at h; cases h
  rw [if_neg hb] at h ⊢
  have hg : ∀ s4 : St, (s4 = if tagged = true then tagsS most X l (elemsS most X l (numS most X l.length (alignS most X s))) else elemsS most X l (numS most X l.length (alignS most X s))) → s4.2 = 0 → s.1.length < s4.1.length := by
    intro s4 e h4
    have h3 : (elemsS most X l (numS most X l.length (alignS most X s))).2 = 0 ∧ (elemsS most X l (numS most X l.length (alignS most X s))).1.length ≤ s4.1.length := by
      rw [e] at h4 ⊢
      split at h4
      · rename_i ht; rw [if_pos ht]; exact ⟨tagsS_err l h4, tagsS_ge l _⟩
      · rename_i ht; rw [if_neg ht]; exact ⟨h4, Nat.le_refl _⟩
    have h2 := numS_err (elemsS_err l h3.1)
    have h1 := elemsS_ge (most := most) (x := X) l (numS most X l.length (alignS most X s))
    have h0 : s.1.length ≤ (alignS most X s).1.length := alignS_ge
    have hw := isW_cases h2.2.2
    have := h2.2.1
    omega
  have hg' := hg _ rfl
  generalize (if tagged = true then tagsS most X l (elemsS most X l (numS most X l.length (alignS most X s))) else elemsS most X l (numS most X l.length (alignS most X s))) = s4 at h hg' ⊢
  by_cases hc : s4.2 ≠ 0
  · rw [if_pos hc] at h; exact absurd h hc
  · rw [if_neg hc]
    exact ⟨hg' (Decidable.byContradiction hc), Decidable.byContradiction hc⟩
theorem headM_ge {most x : Int} {k : V3} {n : Nat} {s : St} : s.1.length ≤ (headM most x k n s).1.length := by
  unfold headM
  have h1 : s.1.length ≤ (alignS most x s).1.length := alignS_ge
  have h2 : (alignS most x s).1.length ≤ (elemS most x (alignS most x s) k).1.length := elemS_ge
  generalize elemS most x (alignS most x s) k = s2 at h2 ⊢
  have h3 : s2.1.length ≤ (numS most x k.2.1 s2).1.length := numS_ge
  generalize numS most x k.2.1 s2 = s3 at h3 ⊢
  have h4 : s3.1.length ≤ (numS most x n s3).1.length := numS_ge
  omega
theorem putM_ge {most : Int} {k : V3} {l : List V3} {s : St} : s.1.length ≤ (putM most k l s).2.1.length := by
  unfold putM
  dsimp only
  by_cases ha : checkE k l ≠ 0
  · rw [if_pos ha]; exact Nat.le_refl _
  rw [if_neg ha]
  generalize allF l k s.1.length 3 = X
  by_cases hb : X = 0
  · rw [if_pos hb]; exact Nat.le_refl _
  rw [if_neg hb]
  have h4 : s.1.length ≤ (tagsS most X l (elemsS most X l (headM most X k l.length s))).1.length := Nat.le_trans headM_ge (Nat.le_trans (elemsS_ge l _) (tagsS_ge l _))
  generalize tagsS most X l (elemsS most X l (headM most X k l.length s)) = s6 at h4 ⊢
  by_cases hc : s6.2 ≠ 0
  · rw [if_pos hc]; exact h4
  · rw [if_neg hc]; exact h4
namespace BS.Good
theorem put_map {x : BS} {most : Int} {k : V3} {vals : List V3} (h : x.Good) (hx : x.e = 0) : ((({ x with s := (putM most k vals x.s).2 } : BS).fail (putM most k vals x.s).1.2).push (putM most k vals x.s).1.1).Good := by
  have hl := putM_ge (most := most) (k := k) (l := vals) (s := x.s)
  generalize putM most k vals x.s = q at hl ⊢
  refine push_of fun _ e => ?_
  have hs : q.2.2 = 0 := e
  refine fail ⟨fun _ => hs, fun _ z hz => ?_, fun _ => Nat.le_trans (h.ks hx) hl, fun _ => Nat.le_trans (h.ts hx) hl, fun _ => Nat.le_trans (h.ls hx) hl, fun _ => Nat.le_trans (h.vs hx) hl, fun _ => h.ix hx, fun _ z hz => Nat.le_trans (h.nz hx z hz) hl⟩
  have := h.nm hx z hz
  show z.1 < (q.2.1.length : Int)
  omega
theorem newList {x : BS} {most : Int} {list : ByteArray} {keys : List V3} (h : x.Good) (hx : x.e = 0) : ({ x with s := (vputF most 4 0 keys x.s).2, e := failS x.e (vputF most 4 0 keys x.s).1.2, lists := putP list x.vals.length x.lists, vals := x.vals ++ [(vputF most 4 0 keys x.s).1.1] } : BS).Good := by
  have hgt := fun h => (putF_gt (most := most) (T := takesE 4) (tagged := false) (kind := (typedF 4 0).1) (e0 := 0) (l := keys) (s := x.s) h)
  have hq : vputF most 4 0 keys x.s = putF most (takesE 4) true false (typedF 4 0).1 0 keys x.s := rfl
  rw [← hq] at hgt
  generalize vputF most 4 0 keys x.s = q at hgt ⊢
  have hf : failS x.e q.1.2 = q.1.2 := by unfold failS; rw [if_pos hx]
  have hp := putP_length list (x.vals.length : Int) x.lists
  have h1 := h.nm hx
  have h2 := h.ks hx
  have h3 := h.ts hx
  have h4 := h.ls hx
  have h5 := h.vs hx
  have h6 := h.ix hx
  refine ⟨fun e => (hgt (hf ▸ e)).2, fun e z hz => ?_, fun e => ?_, fun e => ?_, fun e => ?_, fun e => ?_, fun e z hz => ?_, fun e z hz => Nat.le_trans (h.nz hx z hz) (Nat.le_of_lt (hgt (hf ▸ e)).1)⟩
  · have := (hgt (hf ▸ e)).1; have := h1 z hz; show z.1 < (q.2.1.length : Int); omega
  · have := (hgt (hf ▸ e)).1; show x.keys.length ≤ q.2.1.length; omega
  · have := (hgt (hf ▸ e)).1; show x.texts.length ≤ q.2.1.length; omega
  · have := (hgt (hf ▸ e)).1; show (putP list (x.vals.length : Int) x.lists).length ≤ q.2.1.length; omega
  · have := (hgt (hf ▸ e)).1; show (x.vals ++ [q.1.1]).length ≤ q.2.1.length; rw [List.length_append]; simp; omega
  · show 0 ≤ z.2 ∧ z.2 < ((x.vals ++ [q.1.1]).length : Int)
    rw [List.length_append]
    rcases putP_mem hz with hz | ⟨rfl, _, _⟩
    · have := h6 z hz; simp; omega
    · simp; omega
theorem table {x : BS} {most : Int} {sh : Bool} {list : ByteArray} {keys vals : List V3} (h : x.Good) (hx : x.e = 0) : (x.table most sh list keys vals).Good := by
  unfold BS.table
  dsimp only
  have hG := h.newList (most := most) (list := list) (keys := keys) hx
  generalize vputF most 4 0 keys x.s = q at hG ⊢
  cases hg : ((getP x.lists list).2 && sh) with
  | true =>
    simp only [if_true]
    rw [if_pos hx]
    exact h.put_map hx
  | false =>
    simp only [Bool.false_eq_true, if_false]
    by_cases he : failS x.e q.1.2 = 0
    · rw [if_pos he]; exact hG.put_map he
    · rw [if_neg he]; exact hG
theorem endMap {x : BS} {most start : Int} {sh : Bool} (h : x.Good) : (x.endMap most sh start).Good := by
  unfold BS.endMap
  dsimp only
  by_cases hx : x.e = 0
  · rw [if_pos hx]
    split
    · split
      · split
        · exact (h.stk _).table hx
        · exact h.fail
      · exact h.fail
    · exact h.fail
  · rw [if_neg hx]; exact h
end BS.Good
end Go.Proofs.YtjnpcddbgfmpcaaGreat

/-
  The builder in memory: Keys. Conditions: the builder lies in memory; the list of strings is none of its blocks.
-/
namespace Go.Proofs.YtjnpcddbgfmpcaaGreat
open Go Go.ChangeShapes Go.WideShapes Go.ChangeAt Go.RowKit Go.Joins Go.Deep
open Go.Proofs.YtjnpcddbgfmpcaaGreat.Ft (V3 vV okV ValsAt inlineB legalB packF codeF typedF allF)
set_option linter.unusedVariables false
set_option linter.unusedSimpArgs false
theorem putAll_snoc (most : Int) (sh : Bool) : ∀ (l : List ByteArray) (k : ByteArray) (x : BS), x.putAll most sh (l ++ [k]) = ((x.putAll most sh l).1 ++ [((x.putAll most sh l).2.put most sh k).1], ((x.putAll most sh l).2.put most sh k).2)
  | [], k, x => rfl
  | a :: r, k, x => by
    show (_ :: ((x.put most sh a).2.putAll most sh (r ++ [k])).1, ((x.put most sh a).2.putAll most sh (r ++ [k])).2) = _
    rw [putAll_snoc most sh r k]
    rfl
theorem putAll_length (most : Int) (sh : Bool) : ∀ (l : List ByteArray) (x : BS), (x.putAll most sh l).1.length = l.length
  | [], _ => rfl
  | _ :: r, x => by show ((_ :: _) : List V3).length = _; rw [List.length_cons, putAll_length most sh r]; rfl
def EnvV (B : Nat) (q : Ptrs) (most flags : Int) (w0 : World) (κ0 : Nat → Nat) (x : BS) (v : Value) (L : List V3) (w : World) : Prop :=
  ∃ κ, Bd B q most flags κ x w ∧ Tn κ0 κ w0 w ∧ OwnVals w w0.heap.size v L ∧ ∀ g, v.ownBlock = some g → κ g = 0
section
variable {B : Nat} {q : Ptrs} {most flags : Int} {κ κ0 : Nat → Nat} {x y : BS} {w w0 w1 w2 w3 : World} {v v' : Value} {L : List V3}
theorem own_blk (h : OwnVals w B v L) {g : Nat} (hg : v.ownBlock = some g) : B ≤ g ∧ g < w.heap.size := by
  rcases h.2 with ⟨rfl, _⟩ | ⟨g', cap, cur, rfl, hge, hh, _⟩
  · cases hg
  · cases hg
    exact ⟨hge, (Array.getElem?_eq_some_iff.1 hh).1⟩
theorem EnvV.cell (h : EnvV B q most flags w0 κ0 x v L w) {b off : Nat} {u : Value} (hc : w0.cell? ⟨b, off, none⟩ = some u) (hb : κ0 b = 0) : w.cell? ⟨b, off, none⟩ = some u := by
  obtain ⟨κ1, h1, h2, _⟩ := h
  exact h2.1.cell hc (fun e => e hb)
theorem EnvV.put (h : EnvV B q most flags w0 κ0 x v L w) (k : ByteArray) (hk : k.size ≤ 1048576) (hg : x.Good) : Calls Tryz.prog 95 #[bptr q.p, .string k] w fun r w' => r = .returned (vV (x.put most (onF flags 1) k).1) ∧ EnvV B q most flags w0 κ0 (x.put most (onF flags 1) k).2 v L w' := by
  obtain ⟨κ1, h1, h2, h3, h4⟩ := h
  refine (bput_any k hk hg h1).mono fun r w' hr => ⟨hr.1, ?_⟩
  obtain ⟨κ2, k1, k2⟩ := hr.2
  exact ⟨κ2, k1, h2.trans k2, k2.1.owns h3 (fun g hgg hk => hk (h4 g hgg)), fun g hgg => (k2.2 g (own_blk h3 hgg).2).trans (h4 g hgg)⟩
theorem EnvV.app (h : EnvV B q most flags w0 κ0 x v L w) {o : Obj} {L' : List V3} (hown : OwnVals w3 w0.heap.size v' L') (hgr : (w.alloc o).grownBy w3 v.ownBlock) (hnx : Next (w.alloc o) v.ownBlock v'.ownBlock) : EnvV B q most flags w0 κ0 x v' L' w3 := by
  obtain ⟨κ1, h1, h2, h3, h4⟩ := h
  have hg := (Grew.refl w).alloc o
  have h1' := h1.grew hg
  have hm : Moved (fun k => some k = v.ownBlock) (w.alloc o) w3 := Moved.of_grown hgr
  have hd : ∀ c, c ≠ 0 → ∀ k, κ1 k = c → ¬ some k = v.ownBlock := fun c hc k hk e => hc (by rw [← hk]; exact h4 k e.symm)
  refine ⟨κ1, ⟨fun k hk => ⟨(h1'.lt k hk).1, Nat.lt_of_lt_of_le (h1'.lt k hk).2 hm.size⟩, h1'.ok, h1'.self.kept hm (hd 1 (by decide)), h1'.buf.kept hm (hd 2 (by decide)), h1'.stk.kept hm (hd 3 (by decide)), h1'.keys.kept hm (hd 4 (by decide)), h1'.texts.kept hm (hd 5 (by decide)), h1'.lists.kept hm (hd 6 (by decide)), h1'.names.kept hm (hd 7 (by decide))⟩,
    ⟨(h2.trans (Tn.of_grew hg)).1.trans hm (fun j hj e => by have := (own_blk h3 e.symm).1; omega), (h2.trans (Tn.of_grew (κ := κ1) hg)).2⟩, hown, fun g hgg => ?_⟩
  rcases hnx g hgg with e | e
  · exact h4 g e
  · exact Decidable.byContradiction fun hk => by have := (h1'.lt g hk).2; omega
end
set_option maxRecDepth 100000 in
theorem mapS_any {B : Nat} {q : Ptrs} {most flags : Int} {κ : Nat → Nat} {x : BS} {w : World} (l : List ByteArray) (lv : Value) (hp : CellsAt (fun x => .string x) w lv l) (ha : Apart0 κ w lv) (hk : ∀ k ∈ l, k.size ≤ 1048576) (hl : l.length ≤ 1048576) (hg : x.Good) (h : Bd B q most flags κ x w) : Calls Tryz.prog 100 #[.func (.func 95) #[bptr q.p] #[], lv] w fun r w' => ∃ v', r = .returned v' ∧ EnvV B q most flags w κ (x.putAll most (onF flags 1) l).2 v' (x.putAll most (onF flags 1) l).1 w' := by
  have HB := Lib.hid h
  have HA := Lib.hid ha
  obtain ⟨ad, c, rfl, hcell⟩ := hp
  have HC := Lib.hid hcell
  have HK := Lib.hid hk
  have HL := Lib.hid hl
  have HG := Lib.hid hg
  have hll : l.length ≤ 9223372036854775807 := by omega
  clear hcell hk hg h ha
  go_enter Tryz.func100, Tryz.ntmps100
  go_wp2_with fail
  go_loopw [4, 9] (fun v i wr => ∃ k : Nat, k ≤ l.length ∧ i = .int .i64 k ∧ Hid (EnvV B q most flags w κ (x.putAll most (onF flags 1) (l.take k)).2 v (x.putAll most (onF flags 1) (l.take k)).1 wr)) (fun _ i _ => l.length - (intOf i).toNat)
  case atStart => exact ⟨0, Nat.zero_le _, rfl, by
    show EnvV B q most flags w κ x _ [] _
    exact ⟨κ, HB.out, Tn.refl _ _, World.ownsRow_nil _ _ _ _, fun g e => by cases e⟩⟩
  case round =>
    obtain ⟨k, hk, rfl, HW⟩ := hrel
    by_cases hlt : k < l.length
    · obtain ⟨s, hx⟩ : ∃ s, l[k]? = some s := ⟨_, List.getElem?_eq_getElem hlt⟩
      have HSN := Lib.hid (putAll_snoc most (onF flags 1) (l.take k) s x)
      have HTK : Hid (l.take (k + 1) = l.take k ++ [s]) := by show _ = _; rw [List.take_add_one, hx]; rfl
      have HKS := Lib.hid (HK.out s (List.mem_of_getElem? hx))
      obtain ⟨b, off, rfl, c0⟩ := HC.out k s hx
      have d0 := HW.out.cell c0 (HA.out _ _ _ rfl).2
      clear hx c0
      have HGG : Hid ((x.putAll most (onF flags 1) (l.take k)).2.Good) := BS.Good.putAll _ HG.out
      have HLN : Hid ((x.putAll most (onF flags 1) (l.take k)).1.length = k) := by show _ = _; rw [putAll_length, List.length_take]; omega
      generalize (x.putAll most (onF flags 1) (l.take k)) = Y at *
      obtain ⟨L, y⟩ := Y
      go_wp2_with fail
      refine (HW.out.put s HKS.out HGG.out).mono ?_
      rintro r w2 ⟨rfl, he⟩
      have HE := Lib.hid he
      obtain ⟨va, vc, rfl, hvc⟩ := own_form (show OwnVals w2 w.heap.size u4 L from by obtain ⟨_, _, _, h, _⟩ := he; exact h)
      clear he HW
      obtain ⟨X, hX⟩ : ∃ X, (y.put most (onF flags 1) s).1 = X := ⟨_, rfl⟩
      have HX := Lib.hid hX
      rw [hX]
      clear hX
      obtain ⟨X0, X1, X2⟩ := X
      have HO2 : Hid (∀ o, OwnVals (w2.alloc o) w.heap.size (.slice va L.length vc) L) := fun o => by obtain ⟨_, _, _, h, _⟩ := HE.out; exact own_grew h ((Grew.refl _).alloc o)
      have HSZ : Hid (w.heap.size ≤ w2.heap.size) := by obtain ⟨_, _, h, _⟩ := HE.out; exact h.1.size
      go_wp2_with (at_builtin; refine wpList_appendV rfl _ _ rfl w.heap.size (.slice va L.length vc) L rfl (HO2.out _) _ [(X0, X1, X2)] rfl (vals_new _ _) (fun c h => by cases h) (by have := HLN.out; have := HL.out; simp at *; omega) (Nat.le_trans HSZ.out (by simp)) ?_; intro v' w3 hown hgr hqq; have HG3 := Lib.hid (HE.out.app hown hgr hqq); obtain ⟨va2, vc2, rfl, _⟩ := own_form hown; clear hown hgr hqq)
      go_roundw
      case rel =>
        refine ⟨k + 1, by omega, by go_num, ?_⟩
        show EnvV _ _ _ _ _ _ _ _ _ _
        rw [HTK.out, HSN.out]
        have hh := HG3.out
        rw [List.length_append] at hh
        rw [HX.out]
        exact hh
      case measure => simp [intOf]; omega
    · have ek : k = l.length := by omega
      subst ek
      have hw := HW.out
      rw [List.take_length] at hw
      have HE := Lib.hid hw
      clear hw HW
      go_wp2
      go_ret
      exact ⟨_, rfl, HE.out⟩
end Go.Proofs.YtjnpcddbgfmpcaaGreat

/-
  The builder in memory: Keys. Conditions: the builder lies in memory; the list of strings is none of its blocks.
-/
namespace Go.Proofs.YtjnpcddbgfmpcaaGreat
open Go Go.ChangeShapes Go.WideShapes Go.ChangeAt Go.RowKit Go.Joins Go.Deep
open Go.Proofs.YtjnpcddbgfmpcaaGreat.Ft (V3 vV okV ValsAt inlineB legalB packF codeF typedF allF)
set_option linter.unusedVariables false
set_option linter.unusedSimpArgs false
def EnvR (B : Nat) (q : Ptrs) (most flags : Int) (w0 : World) (κ0 : Nat → Nat) (Kp : List (Nat × Obj)) (x : BS) (L : List V3) : Nat → Value → World → Prop
  | 0, _, _ => False
  | 1, v, w => ∃ κ, Bd B q most flags κ x w ∧ Tn κ0 κ w0 w ∧ (∀ z ∈ Kp, w.heap[z.1]? = some z.2 ∧ κ z.1 = 0) ∧ (∃ b, OwnVals w b v L) ∧ ∀ g, v.ownBlock = some g → κ g = 0
  | _ + 2, _, _ => True
theorem EnvR.st {B : Nat} {q : Ptrs} {most flags : Int} {w0 : World} {κ0 : Nat → Nat} {Kp : List (Nat × Obj)} {x : BS} {L : List V3} : (∀ p v w w', (fun (_ : Nat) w w' => Grew w w') p w w' → EnvR B q most flags w0 κ0 Kp x L p v w → EnvR B q most flags w0 κ0 Kp x L p v w') ∧ ∀ p v w w', (fun _ _ _ => True : Nat → World → World → Prop) p w w' → EnvR B q most flags w0 κ0 Kp x L p v w → EnvR B q most flags w0 κ0 Kp x L (p + 1) v w' := by
  refine ⟨fun p v w w' hg h => ?_, fun p v w w' _ h => ?_⟩
  · match p, h with
    | 1, ⟨κ, h1, h2, h3, ⟨b, h4⟩, h5⟩ => exact ⟨κ, h1.grew hg, h2.trans (Tn.of_grew hg), fun z hz => ⟨hg.heap (h3 z hz).1, (h3 z hz).2⟩, ⟨b, own_grew h4 hg⟩, h5⟩
    | _ + 2, _ => trivial
  · match p, h with
    | 1, _ => trivial
    | _ + 2, _ => trivial
theorem cells_tn {α : Type} {f : α → Value} {κ κ1 : Nat → Nat} {w w' : World} {lv : Value} {l : List α} (hv : CellsAt f w lv l) (h : Apart0 κ w lv) (ht : Tn κ κ1 w w') : CellsAt f w' lv l := by
  obtain ⟨a, c, rfl, hc⟩ := hv
  refine ⟨a, c, rfl, fun i x hx => ?_⟩
  obtain ⟨b, off, rfl, h0⟩ := hc i x hx
  exact ⟨b, off, rfl, ht.1.cell h0 (fun e => e (h _ _ _ rfl).2)⟩
theorem put_keep {most : Int} {sh : Bool} {k : ByteArray} {x : BS} (hl : (x.s.1.length : Int) ≤ most) (hm : most ≤ 1048576) (hk : ∀ z ∈ x.keys, 0 ≤ z.2 ∧ z.2 ≤ 9007199254740991) :
    okV (x.put most sh k).1 ∧ ((x.put most sh k).2.s.1.length : Int) ≤ most ∧ ∀ z ∈ (x.put most sh k).2.keys, 0 ≤ z.2 ∧ z.2 ≤ 9007199254740991 := by
  have hg := getP_ok (k := k) hk
  unfold BS.put
  dsimp only
  by_cases hf : (x.fail (keyE k)).e ≠ 0
  · rw [if_pos hf]; exact ⟨ok0, hl, hk⟩
  · rw [if_neg hf]
    by_cases hgb : ((getP x.keys k).2 && sh) = true
    · rw [if_pos hgb]
      exact ⟨⟨hg.1, by show (getP x.keys k).1 ≤ _; omega⟩, hl, hk⟩
    · rw [if_neg hgb]
      exact ⟨⟨Int.natCast_nonneg _, by show (x.s.1.length : Int) ≤ _; omega⟩, putS_le hl, putP_ok hk⟩
theorem putAll_ok {most : Int} {sh : Bool} (hm : most ≤ 1048576) : ∀ (l : List ByteArray) (x : BS), (x.s.1.length : Int) ≤ most → (∀ z ∈ x.keys, 0 ≤ z.2 ∧ z.2 ≤ 9007199254740991) → ∀ v ∈ (x.putAll most sh l).1, okV v
  | [], _, _, _ => fun v hv => by cases hv
  | k :: r, x, hl, hk => fun v hv => by
    have hp := put_keep (sh := sh) (k := k) hl hm hk
    rcases List.mem_cons.1 hv with rfl | hv
    · exact hp.1
    · exact putAll_ok hm r _ hp.2.1 hp.2.2 v hv
set_option maxRecDepth 100000 in
set_option maxHeartbeats 4000000 in
theorem keys1_any {B : Nat} {q : Ptrs} {most flags : Int} {κ : Nat → Nat} {x : BS} {w : World} (n1 n2 : Nat) (la : Option Addr) (lc : Nat) (l : List ByteArray) (hp : CellsAt (fun x => .string x) w (.slice la l.length lc) l) (ha : Apart0 κ w (.slice la l.length lc)) (hk : ∀ k ∈ l, k.size ≤ 1048576) (hl : l.length ≤ 1048576) (hg : x.Good) (hx : x.e = 0) (he : Env B q most flags w κ [(n2, Obj.cells #[.slice la l.length lc] 34 (0, 0)), (n1, Obj.cells #[bptr q.p] 23 (0, 0))] x w) : Calls Tryz.prog 99 #[.pointer (some ⟨n1, 0, none⟩), .pointer (some ⟨n2, 0, none⟩)] w fun r w' => r = .returned (.tuple #[]) ∧ TurnX B q most flags κ (x.keyVec most (onF flags 1) l) w w' := by
  have HE := Lib.hid he
  have HM2 : Hid ((n2, Obj.cells #[.slice la l.length lc] 34 (0, 0)) ∈ ([(n2, Obj.cells #[.slice la l.length lc] 34 (0, 0)), (n1, Obj.cells #[bptr q.p] 23 (0, 0))] : List (Nat × Obj))) := List.mem_cons_self
  have HM1 : Hid ((n1, Obj.cells #[bptr q.p] 23 (0, 0)) ∈ ([(n2, Obj.cells #[.slice la l.length lc] 34 (0, 0)), (n1, Obj.cells #[bptr q.p] 23 (0, 0))] : List (Nat × Obj))) := List.mem_cons_of_mem _ (List.mem_cons_self)
  have HPA := Lib.hid (And.intro hp ha)
  have HK := Lib.hid (And.intro hk hl)
  have HG := Lib.hid hg
  have HGP : Hid ((x.putAll most (onF flags 1) l).2.Good) := BS.Good.putAll l hg
  have HOK : Hid (∀ v ∈ (x.putAll most (onF flags 1) l).1, okV v) := putAll_ok he.ok.m1 l x he.ok.len he.ok.okK
  have HLN : Hid ((x.putAll most (onF flags 1) l).1.length ≤ 1048576) := by show _ ≤ _; rw [putAll_length]; exact hl
  have HY : Hid (x.keyVec most (onF flags 1) l = (x.putAll most (onF flags 1) l).2.vector most 4 0 (x.putAll most (onF flags 1) l).1) := by show _ = _; unfold BS.keyVec; rw [if_pos hx]
  have HMS : Hid (∀ κ1 w2, Bd B q most flags κ1 x w2 → Tn κ κ1 w w2 → Calls Tryz.prog 100 #[.func (.func 95) #[bptr q.p] #[], .slice la l.length lc] w2 fun r w' => ∃ v', r = .returned v' ∧ EnvV B q most flags w2 κ1 (x.putAll most (onF flags 1) l).2 v' (x.putAll most (onF flags 1) l).1 w') := fun κ1 w2 hb ht => mapS_any l _ (cells_tn hp ha ht) (ha.tn ht) hk hl hg hb
  generalize (x.putAll most (onF flags 1) l) = Y at HGP HOK HLN HY HMS
  obtain ⟨L, yk⟩ := Y
  clear he hp ha hk hg hx
  go_enter Tryz.func99, Tryz.ntmps99
  go_wp2_with fail
  refine wp_region_phases [4, 5] (EnvW B q most flags w κ [(n2, Obj.cells #[.slice la l.length lc] 34 (0, 0)), (n1, Obj.cells #[bptr q.p] 23 (0, 0))] [x, yk] (yk.vector most 4 0 L)) (fun _ w w' => Grew w w') ((fun p (_ : Nat → Value) => (fun _ _ _ => True) p)) [[], [], [1], [], [1, 2, 3], [0, 1, 2, 3, 4]] [[(3, 1), (4, 2), (5, 3), (6, 4)], [(2, 0), (5, 3)], [(2, 0), (3, 1), (5, 3)], [(2, 0), (3, 1), (4, 2)], [(2, 0), (3, 1), (4, 2), (5, 3)], [(2, 0), (3, 1), (4, 2), (5, 3), (6, 4)]] [(2, 0), (3, 1), (4, 2), (5, 3), (6, 4), (7, 5)]
    [IsP (bptr q.p), IsP (bptr q.p), IsP (.func (.func 95) #[bptr q.p] #[]), IsP (.slice la l.length lc), EnvR B q most flags w κ [(n2, Obj.cells #[.slice la l.length lc] 34 (0, 0)), (n1, Obj.cells #[bptr q.p] 23 (0, 0))] yk L, IsP (.tuple #[])]
    (by kernel_rfl) (EnvW.grew) (HE.out.grew (Grew.refl _).drew) (by kernel_rfl) (by kernel_rfl) ⟨isP_st, isP_st, isP_st, isP_st, stOld (EnvR.st), isP_st, trivial⟩ rfl ?_ ?_
  · intro y w2 hW hF
    simp only [factsP, IsP, Nat.reduceAdd, List.length_cons, List.length_nil] at hF hW
    have h0 := hF.1
    have h1 := hF.2.1
    have h2 := hF.2.2.1
    have h3 := hF.2.2.2.1
    have h4 := hF.2.2.2.2.1
    have h5 := hF.2.2.2.2.2.1
    clear hF
    simp only [fillL, Act.put, List.setIfInBounds_toArray, List.set_cons_zero, List.set_cons_succ, List.getD_cons_zero, List.getD_cons_succ]
    simp only [h0, h1, h2, h3, h5]
    clear h0 h1 h2 h3 h5
    go_wp2
    go_end0
    exact ⟨rfl, by rw [HY.out]; exact Env.turn hW⟩
  refine ⟨?_, ?_⟩
  · refine wordP_read 0 1 (by kernel_rfl) (by kernel_rfl) (by kernel_rfl) ?_
    intro y w2 p hlo hhi hW hD K hK
    have d10 := Env.cell hW HM1.out 0 _ rfl
    clear hD
    generalize hAA : fillL y _ _ = AA at hK ⊢
    simp only [fillL, Act.put, List.setIfInBounds_toArray, List.set_cons_zero, List.set_cons_succ, List.getD_cons_zero, List.getD_cons_succ, IsP] at hAA
    subst hAA
    simp only [List.getD_cons_zero, List.getD_cons_succ, IsP] at hK
    refine ite_yes (by rfl) ?_
    go_simp
    exact hK _ _ _ rfl (Grew.refl _) rfl
  refine ⟨?_, ?_⟩
  · refine wordP_read 0 0 (by kernel_rfl) (by kernel_rfl) (by kernel_rfl) ?_
    intro y w2 p hlo hhi hW hD K hK
    have d10 := Env.cell hW HM1.out 0 _ rfl
    clear hD
    generalize hAA : fillL y _ _ = AA at hK ⊢
    simp only [fillL, Act.put, List.setIfInBounds_toArray, List.set_cons_zero, List.set_cons_succ, List.getD_cons_zero, List.getD_cons_succ, IsP] at hAA
    subst hAA
    simp only [List.getD_cons_zero, List.getD_cons_succ, IsP] at hK
    refine ite_yes (by rfl) ?_
    go_simp
    exact hK _ _ _ rfl (Grew.refl _) rfl
  refine ⟨?_, ?_⟩
  · refine wordP_read 0 0 (by kernel_rfl) (by kernel_rfl) (by kernel_rfl) ?_
    intro y w2 p hlo hhi hW hD K hK
    simp only [depsP, List.getD_cons_zero, List.getD_cons_succ, IsP] at hD
    have h1 := hD.1
    clear hD
    generalize hAA : fillL y _ _ = AA at hK ⊢
    simp only [fillL, Act.put, List.setIfInBounds_toArray, List.set_cons_zero, List.set_cons_succ, List.getD_cons_zero, List.getD_cons_succ, IsP] at hAA
    subst hAA
    simp only [List.getD_cons_zero, List.getD_cons_succ, IsP] at hK
    simp only [h1] at hK ⊢
    clear h1
    refine ite_yes (by rfl) ?_
    go_simp
    exact hK _ _ _ rfl (Grew.refl _) rfl
  refine ⟨?_, ?_⟩
  · refine wordP_read 0 0 (by kernel_rfl) (by kernel_rfl) (by kernel_rfl) ?_
    intro y w2 p hlo hhi hW hD K hK
    have d20 := Env.cell hW HM2.out 0 _ rfl
    clear hD
    generalize hAA : fillL y _ _ = AA at hK ⊢
    simp only [fillL, Act.put, List.setIfInBounds_toArray, List.set_cons_zero, List.set_cons_succ, List.getD_cons_zero, List.getD_cons_succ, IsP] at hAA
    subst hAA
    simp only [List.getD_cons_zero, List.getD_cons_succ, IsP] at hK
    refine ite_yes (by rfl) ?_
    go_simp
    exact hK _ _ _ rfl (Grew.refl _) rfl
  refine ⟨?_, ?_⟩
  · refine wordP_write 0 rfl ?_
    intro y w2 hW hD K hK
    simp only [depsP, List.getD_cons_zero, List.getD_cons_succ, IsP] at hD
    have h1 := hD.1
    have h2 := hD.2.1
    have h3 := hD.2.2.1
    clear hD
    generalize hAA : fillL y _ _ = AA at hK ⊢
    simp only [fillL, Act.put, List.setIfInBounds_toArray, List.set_cons_zero, List.set_cons_succ, List.getD_cons_zero, List.getD_cons_succ, IsP] at hAA
    subst hAA
    simp only [List.getD_cons_zero, List.getD_cons_succ, IsP] at hK
    simp only [h1, h2, h3] at hK ⊢
    clear h1 h2 h3
    refine ite_yes (by rfl) ?_
    go_simp
    obtain ⟨κ1, hb, ht, hkk⟩ := (show Env B q most flags w κ [(n2, Obj.cells #[.slice la l.length lc] 34 (0, 0)), (n1, Obj.cells #[bptr q.p] 23 (0, 0))] x w2 from hW)
    refine (HMS.out κ1 w2 hb ht).mono ?_
    rintro r w3 ⟨v', rfl, κ2, k1, k2, k3, k4⟩
    have hkp : ∀ z ∈ ([(n2, Obj.cells #[.slice la l.length lc] 34 (0, 0)), (n1, Obj.cells #[bptr q.p] 23 (0, 0))] : List (Nat × Obj)), w3.heap[z.1]? = some z.2 ∧ κ2 z.1 = 0 := fun z hz => ⟨k2.1.heap (hkk z hz).1 (fun e => e (hkk z hz).2), (k2.2 z.1 (Array.getElem?_eq_some_iff.1 (hkk z hz).1).1).trans (hkk z hz).2⟩
    exact hK _ _ _ rfl trivial ⟨κ2, k1, ht.trans k2, hkp⟩ ⟨κ2, k1, ht.trans k2, hkp, ⟨_, k3⟩, k4⟩
  refine ⟨?_, ?_⟩
  · refine wordP_write 1 rfl ?_
    intro y w2 hW hD K hK
    simp only [depsP, List.getD_cons_zero, List.getD_cons_succ, IsP] at hD
    have h0 := hD.1
    have h1 := hD.2.1
    have h2 := hD.2.2.1
    have h3 := hD.2.2.2.1
    have h4 := hD.2.2.2.2.1
    clear hD
    generalize hAA : fillL y _ _ = AA at hK ⊢
    simp only [fillL, Act.put, List.setIfInBounds_toArray, List.set_cons_zero, List.set_cons_succ, List.getD_cons_zero, List.getD_cons_succ, IsP] at hAA
    subst hAA
    simp only [List.getD_cons_zero, List.getD_cons_succ, IsP] at hK
    simp only [h0, h1, h2, h3] at hK ⊢
    clear h0 h1 h2 h3
    obtain ⟨κ1, hb, ht, hkk, ⟨b, ho⟩, hown⟩ := (show EnvR B q most flags w κ [(n2, Obj.cells #[.slice la l.length lc] 34 (0, 0)), (n1, Obj.cells #[bptr q.p] 23 (0, 0))] yk L 1 _ w2 from h4)
    obtain ⟨va, vc, hv, _⟩ := own_form ho
    rw [hv] at ho hown
    simp only [hv] at hK ⊢
    have hap : Apart0 κ1 w2 (.slice va L.length vc) := fun ad n c e => by cases e; exact ⟨(own_blk ho rfl).2, hown _ rfl⟩
    refine ite_yes (by rfl) ?_
    go_simp
    refine (vector_any 4 0 (.slice va L.length vc) L (.inr (.inl ⟨by decide, rfl, by kernel_rfl⟩)) ho.vals hap HLN.out HOK.out HGP.out hb).mono ?_
    rintro r w3 ⟨rfl, κ2, k1, k2⟩
    exact hK _ _ _ rfl trivial ⟨κ2, k1, ht.trans k2, fun z hz => ⟨k2.1.heap (hkk z hz).1 (fun e => e (hkk z hz).2), (k2.2 z.1 (Array.getElem?_eq_some_iff.1 (hkk z hz).1).1).trans (hkk z hz).2⟩⟩ rfl
  trivial
theorem bkeys_any {B : Nat} {q : Ptrs} {most flags : Int} {κ : Nat → Nat} {x : BS} {w : World} (la : Option Addr) (lc : Nat) (l : List ByteArray) (hp : CellsAt (fun x => .string x) w (.slice la l.length lc) l) (ha : Apart0 κ w (.slice la l.length lc)) (hk : ∀ k ∈ l, k.size ≤ 1048576) (hl : l.length ≤ 1048576) (hg : x.Good) (h : Bd B q most flags κ x w) : Calls Tryz.prog 46 #[bptr q.p, .slice la l.length lc] w fun r w' => r = .returned (.tuple #[]) ∧ TurnX B q most flags κ (x.keyVec most (onF flags 1) l) w w' := by
  have HPA := Lib.hid (And.intro hp ha)
  have HK := Lib.hid (And.intro hk hl)
  have HG := Lib.hid hg
  have HE : Hid (Env B q most flags w κ [(w.heap.size + 1, Obj.cells #[.slice la l.length lc] 34 (0, 0)), (w.heap.size, Obj.cells #[bptr q.p] 23 (0, 0))] x ((w.alloc (.cells #[bptr q.p] 23)).alloc (.cells #[.slice la l.length lc] 34))) := by
    have hh := ((Env.start h).add (.cells #[bptr q.p] 23)).add (.cells #[.slice la l.length lc] 34)
    simp only [World.size_alloc, Nat.add_assoc, Nat.reduceAdd] at hh
    exact hh
  clear h hp ha hk hl hg
  go_enter Tryz.func46, Tryz.ntmps46
  go_wp2_with fail
  refine (HE.out.callT fun κ1 hb ht he => unless_any hb _ _ (x.keyVec most (onF flags 1) l) (fun hx => by unfold BS.keyVec; rw [if_neg hx]) (fun _ => enters_of Tryz.func99 (by kernel_rfl) rfl _ _) (fun hx => keys1_any _ _ _ _ _ (cells_tn HPA.out.1 HPA.out.2 ht) (HPA.out.2.tn ht) HK.out.1 HK.out.2 HG.out hx he)).mono ?_
  rintro r w5 ⟨rfl, he⟩
  have HT := Lib.hid he
  clear he
  go_wp2
  go_end0
  exact ⟨rfl, HT.out.turn⟩
end Go.Proofs.YtjnpcddbgfmpcaaGreat
