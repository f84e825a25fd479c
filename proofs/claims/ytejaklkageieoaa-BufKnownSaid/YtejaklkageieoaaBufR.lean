/-
  The reference buffer's Align, Num, Text; strings as bytes.
-/
import Derived.Test.YtejaklkageieoaaBufMisc
namespace Go.Proofs.Ytejaklkageieoaa
open Go Go.ChangeShapes Go.WideShapes Go.ChangeAt Go.RowKit Go.Joins
set_option linter.unusedVariables false
set_option linter.unusedSimpArgs false

theorem one_byte (w : World) (z : Int) (b : UInt8) (h : z = b.toNat) : BytesAt (w.alloc (.cells #[.int .u8 z] 5)) (.slice (some ⟨w.heap.size, 0, none⟩) 1 1) [b] := by
  subst h
  refine ⟨_, 1, rfl, Nat.le_refl _, (fun h => by cases h), fun i c hc => ⟨_, _, rfl, ?_⟩⟩
  cases i with
  | zero =>
    simp at hc; subst hc
    rw [cell_of_row _ _ _ _ _ _ (heap_alloc_new _ _)]; rfl
  | succ i => simp at hc
theorem own_new {w w' : World} {B : Nat} {t : TypeId} {v : Value} {n : Nat} {xs : List Value} (h : w.ownsRow B t 1 v n xs) (hg : w.grownBy w' v.ownBlock) {W : World} (hW : Grew W w) (hB : W.heap.size ≤ B) : Grew W w' := by
  have h2 : Below W.heap.size W w := hW
  exact h2.grown hg hW.size (fun k hk => Nat.le_trans hB (World.ownsRow.lt h k hk).1)

theorem ralign_any {B : Nat} {w : World} {p : Nat} {o : Option Nat} {most : Int} (s : St) (x : Int) (h : RefAt B w p o s.1 most s.2) (hB : B ≤ w.heap.size) (hl : (s.1.length : Int) ≤ most) (hm1 : most ≤ 1048576) :
    Calls Try.prog 29 #[bptr p, .int .i64 x] w fun r w' => r = .returned (.tuple #[]) ∧ TurnR B w w' p o most (alignS most x s) := by
  have HB := Lib.hid h
  have hb := h
  obtain ⟨_, v, h1, h2, _⟩ := hb
  obtain ⟨c0, c1, c2⟩ := three_cells h1
  obtain ⟨va, vc, rfl, _, _⟩ := row_form h2
  clear h h1 h2
  go_enter Try.func29, Try.ntmps29
  go_wp2_with fail
  refine (rwidth_any _ _).mono ?_
  by_cases hx : isW x = true
  · have HS : Hid (alignS most x s = putS most (zeros (padN s.1 x)) s) := by show _ = _; rw [alignS, if_pos hx]
    have hp := padN_lt (l := s.1) hx
    have hx8 : 1 ≤ x ∧ x ≤ 8 := by rcases isW_cases hx with rfl | rfl | rfl | rfl <;> decide
    have hmod : Hid (∀ k : Nat, (k < padN s.1 x → ((s.1.length : Int) + k) % x ≠ 0) ∧ (k = padN s.1 x → ((s.1.length : Int) + k) % x = 0)) := by
      intro k
      obtain ⟨_, hp2⟩ := hp
      rcases isW_cases hx with rfl | rfl | rfl | rfl <;> omega
    obtain ⟨x0, x1⟩ := hx8
    have hp1 := hp.1
    clear hp
    rw [hx]
    rintro r w' ⟨rfl, rfl⟩
    clear hx
    go_wp2_with fail
    go_loopw [4] (fun v wr => ∃ k : Nat, k ≤ padN s.1 x ∧ ∃ a c, v = .slice a k c ∧ Hid (wr.ownsRow w'.heap.size 5 1 (.slice a k c) k (Lib.byteCells (zeros k)) ∧ Grew w' wr)) (fun v _ => padN s.1 x - (match v with | .slice _ n _ => n | _ => 0))
    case atStart => exact ⟨0, Nat.zero_le _, none, 0, rfl, World.ownsRow_nil _ _ _ _, Grew.refl _⟩
    case round =>
      obtain ⟨k, hk, a, c, rfl, HW⟩ := hrel
      have d0 := HW.out.2.cell c0
      have d1 := HW.out.2.cell c1
      have d2 := HW.out.2.cell c2
      by_cases hlt : k < padN s.1 x
      · have hne := (hmod.out k).1 hlt
        have hzk : (zeros k).length = k := length_zeros k
        have HO2 : Hid ((wr.alloc (.cells #[.int .u8 0] 5)).ownsRow w'.heap.size 5 1 (.slice a k c) (zeros k).length (Lib.byteCells (zeros k))) := by
          have := HW.out.1.alloc (.cells #[.int .u8 0] 5)
          rw [hzk]; exact this
        have HX2 : Hid (BytesAt (wr.alloc (.cells #[.int .u8 0] 5)) (.slice (some ⟨wr.heap.size, 0, none⟩) 1 1) [0]) := one_byte wr 0 0 rfl
        have HG := Lib.hid HW.out.2
        have hsz := HG.out.size
        clear HW hzk
        have hL : (zeros k).length + [(0 : UInt8)].length ≤ 1099511627776 := by rw [length_zeros]; simp; omega
        have hBB : w'.heap.size ≤ (wr.alloc (.cells #[.int .u8 0] 5)).heap.size := by rw [World.size_alloc]; omega
        have HL := Lib.hid hL
        have HBB := Lib.hid hBB
        clear hL hBB
        go_wp2_with (at_builtin; refine wpList_appendB rfl _ _ rfl w'.heap.size (.slice a k c) (zeros k) rfl HO2.out _ [0] rfl HX2.out HL.out HBB.out ?_; intro v' w3 hown hgr hqq; obtain ⟨va2, vc2, rfl, _, _⟩ := row_form hown; have HD := Lib.hid (And.intro hown hgr); clear hown hgr hqq d0 d1 d2)
        go_roundw
        case rel =>
          have e : zeros k ++ [0] = zeros (k + 1) := by simp [zeros, List.replicate_succ']
          have hD := And.intro HD.out.1 (own_new HO2.out HD.out.2 (HG.out.alloc _) (Nat.le_refl _))
          rw [e, length_zeros] at hD
          exact ⟨k + 1, by omega, va2, vc2, by rw [length_zeros], hD⟩
        case measure => simp [length_zeros]; omega
      · have e : k = padN s.1 x := by omega
        have hz := (hmod.out k).2 e
        have HV : Hid (BytesAt wr (.slice a k c) (zeros (padN s.1 x)) ∧ Grew w' wr) := by
          refine ⟨BytesAt.of_own (B := w'.heap.size) (t := 5) ?_, HW.out.2⟩
          rw [length_zeros, ← e]; exact HW.out.1
        have hsz := HW.out.2.size
        clear HW e
        go_wp2_with fail
        refine (rputT s (HB.out.grew HV.out.2) (by omega) hl hm1 HV.out.1 (by rw [length_zeros]; omega)).mono ?_
        rintro r w5 ⟨rfl, ht⟩
        have HT := Lib.hid ht
        clear ht
        go_wp2
        go_end0
        exact ⟨rfl, by rw [HS.out]; exact HT.out.after HV.out.2⟩
  · have hx' : isW x = false := by simpa using hx
    rw [hx']
    rintro r w' ⟨rfl, rfl⟩
    have HS : Hid (alignS most x s = failP 2 s) := by show _ = _; rw [alignS, if_neg hx]
    clear hx hx'
    go_wp2_with fail
    refine (rfailT s 2 HB.out).mono ?_
    rintro r w5 ⟨rfl, ht⟩
    have HT := Lib.hid ht
    clear ht
    go_wp2
    refine bodyPost_ret (results_none rfl _ _ _) rfl ?_
    exact ⟨rfl, by rw [HS.out]; exact HT.out⟩

theorem digB_snoc (k U : Nat) : digB k U ++ [UInt8.ofNat (U / 256 ^ k % 256)] = digB (k + 1) U := by simp [digB, List.range_succ]
theorem rnum_any {B : Nat} {w : World} {p : Nat} {o : Option Nat} {most : Int} (s : St) (x u : Int) (h : RefAt B w p o s.1 most s.2) (hB : B ≤ w.heap.size) (hl : (s.1.length : Int) ≤ most) (hm1 : most ≤ 1048576) (h0 : 0 ≤ u) (h1 : u ≤ 18446744073709551615) :
    Calls Try.prog 30 #[bptr p, .int .i64 x, .int .u64 u] w fun r w' => r = .returned (.tuple #[]) ∧ TurnR B w w' p o most (numS most x u s) := by
  have HB := Lib.hid h
  clear h
  obtain ⟨U, rfl⟩ := Int.eq_ofNat_of_zero_le h0
  go_enter Try.func30, Try.ntmps30
  go_wp2_with fail
  refine (rwidth_any _ _).mono ?_
  by_cases hx : isW x = true
  · have hx8 : 1 ≤ x ∧ x ≤ 8 := by rcases isW_cases hx with rfl | rfl | rfl | rfl <;> decide
    have HS : Hid ((¬ 0 < U / 256 ^ x.toNat → numS most x U s = putS most (digB x.toNat U) s) ∧ (0 < U / 256 ^ x.toNat → numS most x U s = failP 10 s)) := by
      have hfit : fitU x U = decide (¬ 0 < U / 256 ^ x.toNat) := by
        unfold fitU
        rw [decide_eq_decide, Nat.div_pos_iff]
        have e : (2 : Int) ^ (8 * x.toNat) = ((256 ^ x.toNat : Nat) : Int) := by
          rw [Int.pow_mul]; simp
        have hpos : 0 < 256 ^ x.toNat := Nat.pow_pos (by omega)
        rw [e]
        omega
      refine ⟨fun h => ?_, fun h => ?_⟩
      · rw [numS, if_pos hx, hfit, if_pos (decide_eq_true h), Int.toNat_natCast]
      · rw [numS, if_pos hx, hfit, if_neg (by rw [decide_eq_true_iff]; exact fun hh => hh h)]
    obtain ⟨n, rfl⟩ := Int.eq_ofNat_of_zero_le (show 0 ≤ x by omega)
    rw [Int.toNat_natCast] at HS
    obtain ⟨x0, x1⟩ := hx8
    rw [hx]
    rintro r w' ⟨rfl, rfl⟩
    clear hx
    go_wp2_with fail
    go_loopw [2, 6, 7] (fun t v i wr => ∃ k : Nat, k ≤ n ∧ i = .int .i64 k ∧ ∃ q : Nat, t = .int .u64 q ∧ q < 18446744073709551616 ∧ Hid (q = U / 256 ^ k) ∧ ∃ a c, v = .slice a k c ∧ Hid (wr.ownsRow w'.heap.size 5 1 (.slice a k c) k (Lib.byteCells (digB k U)) ∧ Grew w' wr)) (fun _ _ i _ => n - (intOf i).toNat)
    case atStart => exact ⟨0, Nat.zero_le _, rfl, U, rfl, by omega, by show U = _; simp, none, 0, rfl, World.ownsRow_nil _ _ _ _, Grew.refl _⟩
    case round =>
      obtain ⟨k, hk, rfl, q, rfl, hq, HQ, a, c, rfl, HW⟩ := hrel
      by_cases hlt : k < n
      · have HO2 : Hid ((wr.alloc (.cells #[.int .u8 ((q : Int) % 256)] 5)).ownsRow w'.heap.size 5 1 (.slice a k c) (digB k U).length (Lib.byteCells (digB k U))) := by
          have := HW.out.1.alloc (.cells #[.int .u8 ((q : Int) % 256)] 5)
          rw [length_digB]; exact this
        have HX2 : Hid (BytesAt (wr.alloc (.cells #[.int .u8 ((q : Int) % 256)] 5)) (.slice (some ⟨wr.heap.size, 0, none⟩) 1 1) [UInt8.ofNat (U / 256 ^ k % 256)]) :=
          one_byte wr _ _ (by rw [UInt8.toNat_ofNat', HQ.out]; omega)
        have HG := Lib.hid HW.out.2
        have hsz := HG.out.size
        clear HW
        have hL : (digB k U).length + [UInt8.ofNat (U / 256 ^ k % 256)].length ≤ 1099511627776 := by rw [length_digB]; simp; omega
        have hBB : w'.heap.size ≤ (wr.alloc (.cells #[.int .u8 ((q : Int) % 256)] 5)).heap.size := by rw [World.size_alloc]; omega
        have HL := Lib.hid hL
        have HBB := Lib.hid hBB
        clear hL hBB
        go_wp2_with (at_builtin; refine wpList_appendB rfl _ _ rfl w'.heap.size (.slice a k c) (digB k U) rfl HO2.out _ [UInt8.ofNat (U / 256 ^ k % 256)] rfl HX2.out HL.out HBB.out ?_; intro v' w3 hown hgr hqq; obtain ⟨va2, vc2, rfl, _, _⟩ := row_form hown; have HD := Lib.hid (And.intro hown hgr); clear hown hgr hqq)
        go_wp2
        go_roundw
        case rel =>
          have hD := And.intro HD.out.1 (own_new HO2.out HD.out.2 (HG.out.alloc _) (Nat.le_refl _))
          rw [digB_snoc, length_digB] at hD
          refine ⟨k + 1, by omega, by go_num, q / 256, by go_num, by omega, ?_, va2, vc2, by rw [length_digB], hD⟩
          show q / 256 = _
          rw [HQ.out, Nat.div_div_eq_div_mul, Nat.pow_succ]
        case measure => simp [intOf]; omega
      · have e : k = n := by omega
        subst e
        have HV : Hid (BytesAt wr (.slice a k c) (digB k U) ∧ Grew w' wr) := by
          refine ⟨BytesAt.of_own (B := w'.heap.size) (t := 5) ?_, HW.out.2⟩
          rw [length_digB]; exact HW.out.1
        have hsz := HW.out.2.size
        clear HW
        by_cases hz : 0 < q
        · have HS2 := Lib.hid (HS.out.2 (by rw [← HQ.out]; exact hz))
          go_wp2_with fail
          refine (rfailT s 10 (HB.out.grew HV.out.2)).mono ?_
          rintro r w5 ⟨rfl, ht⟩
          have HT := Lib.hid ht
          clear ht
          go_wp2
          refine bodyPost_ret (results_none rfl _ _ _) rfl ?_
          exact ⟨rfl, by rw [HS2.out]; exact HT.out.after HV.out.2⟩
        · have HS2 := Lib.hid (HS.out.1 (by rw [← HQ.out]; exact hz))
          go_wp2_with fail
          refine (rputT s (HB.out.grew HV.out.2) (by omega) hl hm1 HV.out.1 (by rw [length_digB]; omega)).mono ?_
          rintro r w5 ⟨rfl, ht⟩
          have HT := Lib.hid ht
          clear ht
          go_wp2
          go_end0
          exact ⟨rfl, by rw [HS2.out]; exact HT.out.after HV.out.2⟩
  · have hx' : isW x = false := by simpa using hx
    rw [hx']
    rintro r w' ⟨rfl, rfl⟩
    have HS : Hid (numS most x U s = failP 2 s) := by show _ = _; rw [numS, if_neg hx]
    clear hx hx'
    go_wp2_with fail
    refine (rfailT s 2 HB.out).mono ?_
    rintro r w5 ⟨rfl, ht⟩
    have HT := Lib.hid ht
    clear ht
    go_wp2
    refine bodyPost_ret (results_none rfl _ _ _) rfl ?_
    exact ⟨rfl, by rw [HS.out]; exact HT.out⟩

/-- A slice of strings. -/
def StrsAt (w : World) (v : Value) (ss : List ByteArray) : Prop :=
  ∃ a c, v = .slice a ss.length c ∧ ∀ (i : Nat) (s : ByteArray), ss[i]? = some s → ∃ bl off, a = some ⟨bl, off, none⟩ ∧ w.cell? ⟨bl, off + i, none⟩ = some (.string s)
theorem StrsAt.grew {w w' : World} {v : Value} {x : List ByteArray} (h : StrsAt w v x) (hg : Grew w w') : StrsAt w' v x := by
  obtain ⟨a, c, h1, h4⟩ := h
  refine ⟨a, c, h1, fun i b hb => ?_⟩
  obtain ⟨bl, off, e, hc⟩ := h4 i b hb
  exact ⟨bl, off, e, hg.cell hc⟩
theorem StrsAt.form {w : World} {v : Value} {x : List ByteArray} (h : StrsAt w v x) : ∃ a c, v = .slice a x.length c ∧ (∀ (i : Nat) (s : ByteArray), x[i]? = some s → ∃ bl off, a = some ⟨bl, off, none⟩ ∧ w.cell? ⟨bl, off + i, none⟩ = some (.string s)) := h
def catS (ss : List ByteArray) : ByteArray := ss.foldl (· ++ ·) ByteArray.empty
def bytesS (ss : List ByteArray) : List UInt8 := ss.flatMap (·.data.toList)
def sizeS (ss : List ByteArray) : Nat := (ss.map (·.size)).sum
theorem catS_bytes (ss : List ByteArray) : (catS ss).data.toList = bytesS ss := by
  have : ∀ (ss : List ByteArray) (a : ByteArray), (ss.foldl (· ++ ·) a).data.toList = a.data.toList ++ bytesS ss := by
    intro ss
    induction ss with
    | nil => intro a; simp [bytesS]
    | cons s r ih => intro a; rw [List.foldl_cons, ih]; simp [bytesS]
  rw [catS, this]; rfl
theorem bytesS_length (ss : List ByteArray) : (bytesS ss).length = sizeS ss := by
  induction ss with
  | nil => rfl
  | cons s r ih =>
    have e1 : bytesS (s :: r) = s.data.toList ++ bytesS r := by simp [bytesS]
    have e2 : sizeS (s :: r) = s.size + sizeS r := by simp [sizeS]
    rw [e1, e2, List.length_append, ih]; rfl
theorem catS_size (ss : List ByteArray) : (catS ss).size = sizeS ss := by
  rw [← bytesS_length, ← catS_bytes]; rfl
theorem take_snocS (ss : List ByteArray) (k : Nat) (h : k < ss.length) : ss.take (k + 1) = ss.take k ++ [ss[k]] := by
  rw [List.take_succ_eq_append_getElem h]
theorem catS_snoc (ss : List ByteArray) (k : Nat) (h : k < ss.length) : catS (ss.take (k + 1)) = catS (ss.take k) ++ ss[k] := by
  rw [take_snocS ss k h, catS, List.foldl_append]; rfl
theorem bytesS_snoc (ss : List ByteArray) (k : Nat) (h : k < ss.length) : bytesS (ss.take (k + 1)) = bytesS (ss.take k) ++ ss[k].data.toList := by
  rw [take_snocS ss k h, bytesS, List.flatMap_append]; simp [bytesS]
theorem sizeS_snoc (ss : List ByteArray) (k : Nat) (h : k < ss.length) : sizeS (ss.take (k + 1)) = sizeS (ss.take k) + ss[k].size := by
  rw [take_snocS ss k h, sizeS, List.map_append, List.sum_append]; simp [sizeS]
theorem sizeS_take (ss : List ByteArray) (k : Nat) : sizeS (ss.take k) ≤ sizeS ss := by
  have : sizeS ss = sizeS (ss.take k) + sizeS (ss.drop k) := by
    conv => lhs; rw [← List.take_append_drop k ss]
    simp only [sizeS, List.map_append, List.sum_append]
  omega
theorem bytes_of_str (w : World) (s : ByteArray) (hs : s.size ≤ 1099511627776) :
    ∃ v w', (convert 9 32 (.string s)).run Try.prog w = .ok v w' ∧ BytesAt w' v s.data.toList ∧ Grew w w' := by
  have hr := run_bytes_of_string (P := Try.prog) w 9 32 5 s Try.underlying9 Try.underlying32 Try.underlying5
  refine ⟨_, _, hr, ?_, ((Grew.refl w).drew).alloc _⟩
  have hge := grownCap_ge w s.size 0 5
  have hsz : s.size = s.data.toList.length := rfl
  refine ⟨_, _, by rw [hsz], by rw [← hsz]; exact hge, (fun h => by cases h), fun i b hb => ⟨_, _, rfl, ?_⟩⟩
  obtain ⟨hi, he⟩ := List.getElem?_eq_some_iff.1 hb
  have hh : (w.drew.alloc (.cells (bytesRow s (grownCap w s.size 0 5)) 5 ((bytesRow s (grownCap w s.size 0 5)).size, (bytesRow s (grownCap w s.size 0 5)).size + 1))).heap[w.heap.size]? = some _ := heap_alloc_new w.drew _
  rw [cell_of_row _ w.heap.size _ _ _ _ hh, Nat.zero_add, bytesRow_at s _ i (by simpa using hi)]
  rw [← he]; rfl
theorem rtext_any {B : Nat} {w : World} {p : Nat} {o : Option Nat} {most : Int} (s : St) (lv : Value) (ss : List ByteArray) (h : RefAt B w p o s.1 most s.2) (hB : B ≤ w.heap.size) (hl : (s.1.length : Int) ≤ most) (hm1 : most ≤ 1048576)
    (hs : StrsAt w lv ss) (hsl : ss.length ≤ 1048576) (hss : sizeS ss ≤ 1073741824) :
    Calls Try.prog 31 #[bptr p, lv] w fun r w' => r = .returned (.tuple #[]) ∧ TurnR B w w' p o most (putS most (bytesS ss) s) := by
  have HB := Lib.hid h
  obtain ⟨a, c, rfl, hcell⟩ := hs.form
  have HC := Lib.hid hcell
  clear h hs hcell
  go_enter Try.func31, Try.ntmps31
  go_wp2_with fail
  go_loopw [4, 5] (fun t i wr => wr = w ∧ ∃ k : Nat, k ≤ ss.length ∧ i = .int .i64 k ∧ ∃ z, t = .string z ∧ Hid (z = catS (ss.take k))) (fun _ i _ => ss.length - (intOf i).toNat)
  case atStart => exact ⟨rfl, 0, Nat.zero_le _, rfl, _, rfl, rfl⟩
  case round =>
    obtain ⟨rfl, k, hk, rfl, z, rfl, HZ⟩ := hrel
    have hz : z.size ≤ 1073741824 := by rw [HZ.out, catS_size]; have := sizeS_take ss k; omega
    by_cases hlt : k < ss.length
    · obtain ⟨bl, off, rfl, hc⟩ := HC.out k ss[k] (List.getElem?_eq_getElem hlt)
      have hz2 : ss[k].size ≤ 1073741824 := by have := sizeS_snoc ss k hlt; have := sizeS_take ss (k + 1); omega
      have HN : Hid (z ++ ss[k] = catS (ss.take (k + 1))) := by show _ = _; rw [catS_snoc ss k hlt, HZ.out]
      generalize ss[k] = sk at *
      go_wp2
      go_roundw
      case rel => exact ⟨trivial, k + 1, by omega, by go_num, _, rfl, HN⟩
      case measure => simp [intOf]; omega
    · have e : k = ss.length := by omega
      obtain ⟨v, w3, hr, hv, hg⟩ := bytes_of_str wr z (by omega)
      have hb : z.data.toList = bytesS ss := by rw [HZ.out, e, List.take_length, catS_bytes]
      rw [hb] at hv
      have HE := Lib.hid (And.intro hv hg)
      have hsz := hg.size
      have hbl : (bytesS ss).length ≤ 1073741824 := by rw [bytesS_length]; exact hss
      clear hv hg hb e HZ
      go_wp2_with fail
      refine (rputT s (HB.out.grew HE.out.2) (by omega) hl hm1 HE.out.1 (by omega)).mono ?_
      rintro r w5 ⟨rfl, ht⟩
      have HT := Lib.hid ht
      clear ht
      go_wp2
      go_end0
      exact ⟨rfl, HT.out.after HE.out.2⟩
end Go.Proofs.Ytejaklkageieoaa
