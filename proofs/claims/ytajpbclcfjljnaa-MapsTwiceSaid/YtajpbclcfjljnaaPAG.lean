/-
  Texts of the proof, part 7 of 21.
-/
import Derived.Test.YtajpbclcfjljnaaPAE
import Derived.Shelf.Abstract

/-
  Numbers as bytes: le.fits, le.digits, le.behind, le.Put (onto nil), and the buffer's Num.
-/
namespace Go.Proofs.Ytajpbclcfjljnaa
open Go Go.ChangeShapes Go.WideShapes Go.ChangeAt Go.RowKit Go.Joins
set_option linter.unusedVariables false
set_option linter.unusedSimpArgs false
theorem fits_any (x u : Int) (w : World) (hx : isW x = true) (h0 : 0 ≤ u) (h1 : u ≤ 18446744073709551615) :
    Calls Try.prog 69 #[.int .i64 x, .int .u64 u] w fun r w' => r = .returned (.bool (fitU x u)) ∧ w' = w := by
  rcases isW_cases hx with rfl | rfl | rfl | rfl
  all_goals clear hx
  all_goals
    go_enter Try.func69, Try.ntmps69
    go_wp2
    go_ret
    refine ⟨ret_bool ?_, rfl⟩
    first
      | (show (true : Bool) = _
         unfold fitU
         exact (decide_eq_true (by simp; omega)).symm)
      | (show (_ == _) = _
         unfold fitU
         rw [Bool.eq_iff_iff, beq_iff_eq, decide_eq_true_iff]
         simp only [Int.reduceToNat, Nat.reduceMul, Int.reducePow]
         omega)
theorem fitsc_any (a b : Addr) (x u : Int) (w : World) (ca : w.cell? a = some (.int .i64 x)) (cb : w.cell? b = some (.int .u64 u)) (hx : isW x = true) (h0 : 0 ≤ u) (h1 : u ≤ 18446744073709551615) :
    Calls Try.prog 68 #[.pointer (some a), .pointer (some b)] w fun r w' => r = .returned (.bool (fitU x u)) ∧ w' = w := by
  have HX := Lib.hid hx
  clear hx
  go_enter Try.func68, Try.ntmps68
  go_wp2_with fail
  refine (fits_any x u _ HX.out h0 h1).mono ?_
  rintro r w' ⟨rfl, rfl⟩
  go_wp2
  go_ret
  exact ⟨rfl, rfl⟩
theorem clone_nil (w : World) : Calls Try.prog 35 #[.slice none 0 0] w fun r w' => r = .returned (.slice none 0 0) ∧ w' = w := by
  have hq := fun W => Lib.run_eql_slice_nil_nil (P := Try.prog) W 0 0 Try.underlying36
  go_enter Try.func35, Try.ntmps35
  go_wp2
  go_ret
  exact ⟨rfl, rfl⟩
theorem digits_set (n k U : Nat) (hk : k < n) : (Lib.byteCells (digB k U ++ zeros (n - k))).set k (.int .u8 ((U : Int) / 2 ^ (8 * k) % 256)) = Lib.byteCells (digB (k + 1) U ++ zeros (n - (k + 1))) := by
  have hv : ((UInt8.ofNat (U / 256 ^ k % 256)).toNat : Int) = (U : Int) / 2 ^ (8 * k) % 256 := by
    rw [UInt8.toNat_ofNat']
    have : (2 : Nat) ^ 8 = 256 := rfl
    rw [this]
    have h2 : ((2 : Int) ^ (8 * k)) = ((256 ^ k : Nat) : Int) := by
      rw [Int.pow_mul]; simp
    rw [h2, ← Int.natCast_ediv]
    omega
  have e : digB (k + 1) U = digB k U ++ [UInt8.ofNat (U / 256 ^ k % 256)] := by simp [digB, List.range_succ]
  have ez : zeros (n - k) = 0 :: zeros (n - (k + 1)) := by
    obtain ⟨m, hm⟩ : ∃ m, n - k = m + 1 := ⟨n - k - 1, by omega⟩
    rw [hm, show n - (k + 1) = m by omega]; rfl
  rw [e, ez]
  unfold Lib.byteCells
  rw [List.map_append, List.set_append_right _ _ (by simp [digB])]
  simp only [digB, List.length_map, List.length_range, Nat.sub_self, List.map_cons, List.set_cons_zero, List.map_append, List.map_nil, List.append_assoc, List.cons_append, List.nil_append, hv]
theorem digits_any (g n c : Nat) (u : Int) (w : World) (h0 : 0 ≤ u) (h1 : u ≤ 18446744073709551615) (hn : n ≤ 8) (B : Nat) (hown : w.ownsRow B 5 1 (.slice (some ⟨g, 0, none⟩) n c) n (Lib.byteCells (zeros n))) :
    Calls Try.prog 71 #[.slice (some ⟨g, 0, none⟩) n c, .int .u64 u] w fun r w' => r = .returned (.tuple #[]) ∧ w'.ownsRow B 5 1 (.slice (some ⟨g, 0, none⟩) n c) n (Lib.byteCells (digB n u.toNat)) ∧ Moved (fun k => k = g) w w' := by
  have HO := Lib.hid hown
  clear hown
  obtain ⟨U, rfl⟩ := Int.eq_ofNat_of_zero_le h0
  go_enter Try.func71, Try.ntmps71
  go_wp2_with fail
  go_loopw [4, 7] (fun _ i wr => ∃ k : Nat, k ≤ n ∧ i = .int .i64 k ∧ Hid (wr.ownsRow B 5 1 (.slice (some ⟨g, 0, none⟩) n c) n (Lib.byteCells (digB k U ++ zeros (n - k))) ∧ Moved (fun k => k = g) w wr)) (fun _ i _ => n - (intOf i).toNat)
  case atStart => exact ⟨0, Nat.zero_le _, rfl, HO.out, Moved.refl _ _⟩
  case round =>
    obtain ⟨k, hk, rfl, HW⟩ := hrel
    by_cases hlt : k < n
    · obtain ⟨z, hc⟩ : ∃ z, wr.cell? ⟨g, k, none⟩ = some z := by
        rw [World.ownsRow.cellAt HW.out.1 k (by omega)]
        exact ⟨_, List.getElem?_eq_getElem (by simp [Lib.byteCells, digB, zeros]; omega)⟩
      have hf : wr.frozen? ⟨g, k, none⟩ = false := HW.out.1.frozenAt k
      have HN : Hid ((wr.setCell ⟨g, k, none⟩ (.int .u8 ((U : Int) / 2 ^ (8 * k) % 256))).ownsRow B 5 1 (.slice (some ⟨g, 0, none⟩) n c) n (Lib.byteCells (digB (k + 1) U ++ zeros (n - (k + 1)))) ∧ Moved (fun k => k = g) w (wr.setCell ⟨g, k, none⟩ (.int .u8 ((U : Int) / 2 ^ (8 * k) % 256)))) := by
        have h2 := HW.out.1.stored k (.int .u8 ((U : Int) / 2 ^ (8 * k) % 256))
        rw [digits_set n k U hlt] at h2
        exact ⟨h2.1, HW.out.2.trans' (moved_at wr g k _)⟩
      clear HW
      go_wp2
      go_roundw
      case rel => exact ⟨k + 1, by omega, by go_num, HN⟩
      case measure => simp [intOf]; omega
    · have e : k = n := by omega
      subst e
      go_wp2
      go_end0
      refine ⟨rfl, ?_, HW.out.2⟩
      have := HW.out.1
      simpa [zeros] using this
theorem append_zeros (w : World) (n : Nat) (h0 : 0 < n) (hn : n ≤ 1099511627776) (ty : TypeId) :
    ∃ c w3, (Builtin.append_ #[36, 3] ty #[.slice none 0 0, .int .i64 n]).run Try.prog w = .ok (.slice (some ⟨w.heap.size, 0, none⟩) n c) w3 ∧ w3.ownsRow w.heap.size 5 1 (.slice (some ⟨w.heap.size, 0, none⟩) n c) n (Lib.byteCells (zeros n)) ∧ Grew w w3 := by
  obtain ⟨i0, hi, hz0, hz1, hz2⟩ := byte_parts
  have hr := Lib.run_append_nil_zeros (P := Try.prog) w 36 3 ty 5 i0 (.int .u8 0) .i64 .i64 Try.underlying36 Try.underlying3 hi hz0 n h0 (by omega) (by omega) (by rw [hz2]; omega)
  refine ⟨_, _, hr, ?_, ((Grew.refl w).drew).alloc _⟩
  have hge := grownCap_ge w n 0 5
  have hle := grownCap_le_maxLen w n 0 5 (by unfold maxLen; omega)
  refine ⟨by simp [Lib.byteCells, zeros], .inr ⟨w.heap.size, _, _, rfl, Nat.le_refl _, heap_alloc_new w.drew _, hge, hle, by simp [Builtin.zeroCells, Value.cells]; omega, ?_⟩⟩
  rw [Array.toList_append, List.take_append_of_le_length (by simp [Builtin.zeroCells, Value.cells])]
  rw [List.take_of_length_le (by simp [Builtin.zeroCells, Value.cells])]
  apply List.ext_getElem?
  intro j
  by_cases hj : j < n
  · simp [Builtin.zeroCells, Value.cells, Lib.byteCells, zeros, hj, Nat.mod_one]
  · simp [Builtin.zeroCells, Value.cells, Lib.byteCells, zeros, hj]
theorem behind_arg (x u : Int) (a b : Addr) (w : World) (hx : isW x = false) :
    Calls Try.prog 67 #[.slice none 0 0, .int .i64 x, .int .u64 u, .func (.func 68) #[] #[.pointer (some a), .pointer (some b)]] w fun r w' => r = .returned (.tuple #[.slice none 0 0, .int .i64 2]) ∧ w' = w := by
  have HX := Lib.hid hx
  clear hx
  go_enter Try.func67, Try.ntmps67
  go_wp2_with fail
  refine (leis_any x _).mono ?_
  rw [HX.out]
  rintro r w' ⟨rfl, rfl⟩
  go_wp2
  go_ret2
  exact ⟨rfl, rfl⟩
theorem behind_nofit (x u : Int) (a b : Addr) (w : World) (hx : isW x = true) (hf : fitU x u = false) (ca : w.cell? a = some (.int .i64 x)) (cb : w.cell? b = some (.int .u64 u)) (h0 : 0 ≤ u) (h1 : u ≤ 18446744073709551615) :
    Calls Try.prog 67 #[.slice none 0 0, .int .i64 x, .int .u64 u, .func (.func 68) #[] #[.pointer (some a), .pointer (some b)]] w fun r w' => r = .returned (.tuple #[.slice none 0 0, .int .i64 10]) ∧ w' = w := by
  have HX := Lib.hid hx
  have HF := Lib.hid hf
  clear hx hf
  have he : ∀ args w, (callFunc 68 args).run Try.prog w = .ok (.enter 68 args) w := enters_of Try.func68 (by kernel_rfl) rfl
  go_enter Try.func67, Try.ntmps67
  go_wp2_with fail
  refine (leis_any x _).mono ?_
  rw [HX.out]
  rintro r w' ⟨rfl, rfl⟩
  go_wp2_with fail
  refine (fitsc_any a b x u _ ca cb HX.out h0 h1).mono ?_
  rw [HF.out]
  rintro r w' ⟨rfl, rfl⟩
  go_wp2
  go_ret2
  exact ⟨rfl, rfl⟩
theorem behind_ok (x u : Int) (a b : Addr) (w : World) (hx : isW x = true) (hf : fitU x u = true) (ca : w.cell? a = some (.int .i64 x)) (cb : w.cell? b = some (.int .u64 u)) (h0 : 0 ≤ u) (h1 : u ≤ 18446744073709551615) :
    Calls Try.prog 67 #[.slice none 0 0, .int .i64 x, .int .u64 u, .func (.func 68) #[] #[.pointer (some a), .pointer (some b)]] w fun r w' => ∃ v', r = .returned (.tuple #[v', .int .i64 0]) ∧ w'.ownsRow w.heap.size 5 1 v' x.toNat (Lib.byteCells (digB x.toNat u.toNat)) ∧ Grew w w' := by
  have HX := Lib.hid hx
  have HF := Lib.hid hf
  have x0 : 0 < x ∧ x ≤ 8 := by rcases isW_cases hx with rfl | rfl | rfl | rfl <;> omega
  obtain ⟨x0, x1⟩ := x0
  clear hx hf
  obtain ⟨n, rfl⟩ := Int.eq_ofNat_of_zero_le (show 0 ≤ x by omega)
  have hn0 : 0 < n := by omega
  have hn8 : n ≤ 8 := by omega
  obtain ⟨c, w3, hr, hown, hg⟩ := append_zeros w n hn0 (by omega) 36
  have HR := Lib.hid hr
  have HO := Lib.hid hown
  have HG := Lib.hid hg
  have hcn : (n : Int) ≤ c := by
    obtain ⟨_, h2⟩ := hown
    rcases h2 with ⟨h2, _⟩ | ⟨g, cap, cur, h2, _, _, h3, _⟩
    · cases h2
    · injection h2 with _ _ h4; omega
  clear hr hown hg
  have he : ∀ args w, (callFunc 68 args).run Try.prog w = .ok (.enter 68 args) w := enters_of Try.func68 (by kernel_rfl) rfl
  go_enter Try.func67, Try.ntmps67
  go_wp2_with fail
  refine (leis_any (n : Int) _).mono ?_
  rw [HX.out]
  rintro r w' ⟨rfl, rfl⟩
  go_wp2_with fail
  refine (fitsc_any a b (n : Int) u _ ca cb HX.out h0 h1).mono ?_
  rw [HF.out]
  rintro r w' ⟨rfl, rfl⟩
  go_wp2_with fail
  refine (clone_nil _).mono ?_
  rintro r w' ⟨rfl, rfl⟩
  go_wp2_with (at_builtin; refine Lib.wpList_append_run _ rfl _ _ 36 3 rfl _ _ rfl rfl _ _ HR.out ?_)
  refine (digits_any _ n c u w3 h0 h1 hn8 w'.heap.size HO.out).mono ?_
  rintro r w4 ⟨rfl, ho, hm⟩
  have HE := Lib.hid (And.intro ho hm)
  clear ho hm
  go_wp2
  go_ret2
  refine ⟨_, rfl, HE.out.1, ?_⟩
  have h5 := (Moved.of_grew (S := fun k => k = w'.heap.size) HG.out).trans' HE.out.2
  exact h5.below (Nat.le_refl _) (fun k hk => by omega)
theorem lput_ok (x u : Int) (w : World) (hx : isW x = true) (hf : fitU x u = true) (h0 : 0 ≤ u) (h1 : u ≤ 18446744073709551615) :
    Calls Try.prog 54 #[.slice none 0 0, .int .i64 x, .int .u64 u] w fun r w' => ∃ v', r = .returned (.tuple #[v', .int .i64 0]) ∧ BytesAt w' v' (digB x.toNat u.toNat) ∧ Grew w w' := by
  have HX := Lib.hid hx
  have HF := Lib.hid hf
  clear hx hf
  go_enter Try.func54, Try.ntmps54
  go_wp2_with fail
  refine (behind_ok x u _ _ _ HX.out HF.out (by go_simp) (by go_simp) h0 h1).mono ?_
  rintro r w4 ⟨v', rfl, ho, hg⟩
  have HE := Lib.hid (And.intro ho hg)
  clear ho hg
  go_wp2
  go_ret2
  refine ⟨_, rfl, ?_, (((Grew.refl w).alloc _).alloc _).trans HE.out.2⟩
  have h5 := HE.out.1
  have e : x.toNat = (digB x.toNat u.toNat).length := (length_digB _ _).symm
  exact BytesAt.of_own (by rw [← e]; exact h5)
theorem lput_nofit (x u : Int) (w : World) (hx : isW x = true) (hf : fitU x u = false) (h0 : 0 ≤ u) (h1 : u ≤ 18446744073709551615) :
    Calls Try.prog 54 #[.slice none 0 0, .int .i64 x, .int .u64 u] w fun r w' => r = .returned (.tuple #[.slice none 0 0, .int .i64 10]) ∧ Grew w w' := by
  have HX := Lib.hid hx
  have HF := Lib.hid hf
  clear hx hf
  go_enter Try.func54, Try.ntmps54
  go_wp2_with fail
  refine (behind_nofit x u _ _ _ HX.out HF.out (by go_simp) (by go_simp) h0 h1).mono ?_
  rintro r w4 ⟨rfl, rfl⟩
  go_wp2
  go_ret2
  exact ⟨rfl, ((Grew.refl w).alloc _).alloc _⟩
theorem numc_any {B : Nat} {w : World} {p : Nat} {o : Option Nat} {most : Int} (s : St) (x u : Int) (a b c : Addr) (ca : w.cell? a = some (.int .i64 x)) (cb : w.cell? b = some (.int .u64 u)) (cc : w.cell? c = some (bptr p))
    (h : BufAt B w p o s.1 most s.2) (hB : B ≤ w.heap.size) (hl : (s.1.length : Int) ≤ most) (hm1 : most ≤ 1048576) (hx : isW x = true) (h0 : 0 ≤ u) (h1 : u ≤ 18446744073709551615) :
    Calls Try.prog 53 #[.pointer (some a), .pointer (some b), .pointer (some c)] w fun r w' => r = .returned (.tuple #[]) ∧ TurnB B w w' p o most (numS most x u s) := by
  have HB := Lib.hid h
  have HX := Lib.hid hx
  have hx8 : x.toNat ≤ 8 := by rcases isW_cases hx with rfl | rfl | rfl | rfl <;> decide
  have HX8 := Lib.hid hx8
  clear h hx hx8
  go_enter Try.func53, Try.ntmps53
  by_cases hf : fitU x u = true
  · have HS : Hid (numS most x u s = putS most (digB x.toNat u.toNat) s) := by show _ = _; rw [numS, if_pos HX.out, if_pos hf]
    have HF := Lib.hid hf
    clear hf
    go_wp2_with fail
    refine (lput_ok x u _ HX.out HF.out h0 h1).mono ?_
    rintro r w4 ⟨v', rfl, hv, hg⟩
    have cc4 := hg.cell cc
    have hs := hg.size
    have HE := Lib.hid (And.intro hv hg)
    clear hv hg ca cb cc
    go_wp2_with fail
    refine (putT s (HB.out.grew HE.out.2) (by omega) hl hm1 HE.out.1 (by rw [length_digB]; have := HX8.out; omega)).mono ?_
    rintro r w5 ⟨rfl, ht⟩
    have HT := Lib.hid ht
    clear ht
    go_wp2
    go_end0
    exact ⟨rfl, by rw [HS.out]; exact HT.out.after HE.out.2⟩
  · have HS : Hid (numS most x u s = failP 10 s) := by show _ = _; rw [numS, if_pos HX.out, if_neg hf]
    have HF := Lib.hid (show fitU x u = false by simpa using hf)
    clear hf
    go_wp2_with fail
    refine (lput_nofit x u _ HX.out HF.out h0 h1).mono ?_
    rintro r w4 ⟨rfl, hg⟩
    have cc4 := hg.cell cc
    have HE := Lib.hid hg
    clear hg ca cb cc
    go_wp2_with fail
    refine (failT s 10 (HB.out.grew HE.out)).mono ?_
    rintro r w5 ⟨rfl, ht⟩
    have HT := Lib.hid ht
    clear ht
    go_wp2
    refine bodyPost_ret (results_none rfl _ _ _) rfl ?_
    exact ⟨rfl, by rw [HS.out]; exact HT.out.after HE.out⟩
theorem num_any {B : Nat} {w : World} {p : Nat} {o : Option Nat} {most : Int} (s : St) (x u : Int) (h : BufAt B w p o s.1 most s.2) (hB : B ≤ w.heap.size) (hl : (s.1.length : Int) ≤ most) (hm1 : most ≤ 1048576) (h0 : 0 ≤ u) (h1 : u ≤ 18446744073709551615) :
    Calls Try.prog 31 #[bptr p, .int .i64 x, .int .u64 u] w fun r w' => r = .returned (.tuple #[]) ∧ TurnB B w w' p o most (numS most x u s) := by
  have HB := Lib.hid h
  clear h
  go_enter Try.func31, Try.ntmps31
  go_wp2_with fail
  have G : Grew w (((w.alloc (.cells #[bptr p] 26)).alloc (.cells #[.int .i64 x] 3)).alloc (.cells #[.int .u64 u] 28)) := (((Grew.refl w).alloc _).alloc _).alloc _
  refine (with_any s x _ _ (HB.out.grew G) (numS most x u s) (fun hx => by rw [numS, if_neg (by simp [hx])]) (fun _ => enters_of Try.func53 (by kernel_rfl) rfl _ _) (fun hx => numc_any s x u _ _ _ (by go_simp) (by go_simp) (by go_simp) (HB.out.grew G) (Nat.le_trans hB G.size) hl hm1 hx h0 h1)).mono ?_
  rintro r w5 ⟨rfl, ht⟩
  have HT := Lib.hid (TurnB.after G ht)
  clear ht G
  go_wp2
  go_end0
  exact ⟨rfl, HT.out⟩
end Go.Proofs.Ytajpbclcfjljnaa
