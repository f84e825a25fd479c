/-
  Small helpers: EqBytes, SpoilBytes, Short, Bring, New, the reference's New.
-/
import Derived.Test.YtejaklkageieoaaBufStep
import Derived.Outline
import Derived.Laws.IdiomStrings
import Derived.WalkSpells
import Derived.Laws.Closers25b
namespace Go.Proofs.Ytejaklkageieoaa
open Go Go.ChangeShapes Go.WideShapes Go.ChangeAt Go.RowKit Go.Joins
set_option linter.unusedVariables false
set_option linter.unusedSimpArgs false

theorem str_of_bytes {w : World} {v : Value} {x : List UInt8} (h : BytesAt w v x) : (convert 32 9 v).run Try.prog w = .ok (.string ⟨x.toArray⟩) w := by
  obtain ⟨a, c, rfl, hc, hnil, hcell⟩ := h
  cases a with
  | none =>
    have h0 := hnil rfl
    subst h0
    have : x = [] := List.length_eq_zero_iff.1 (by omega)
    subst this
    exact run_convert_bytes_nil w 32 5 Try.underlying32 Try.underlying5 0 0 9 Try.underlying9
  | some ad =>
    refine run_convert_bytes_back w 32 9 5 ad c x Try.underlying32 Try.underlying5 Try.underlying9 fun j hj => ?_
    obtain ⟨b, off, e, hcc⟩ := hcell j x[j] (List.getElem?_eq_getElem hj)
    cases e
    have : (⟨b, off, none⟩ : Addr).add j = ⟨b, off + j, none⟩ := by
      unfold Addr.add
      split
      · rename_i h; subst h; rfl
      · rfl
    rw [this]; exact hcc
theorem eqBytes_any {w : World} (v u : Value) (x y : List UInt8) (hv : BytesAt w v x) (hu : BytesAt w u y) :
    Calls Try.prog 15 #[v, u] w fun r w' => r = .returned (.bool (decide (x = y))) ∧ w' = w := by
  have h1 := str_of_bytes hv
  have h2 := str_of_bytes hu
  obtain ⟨a, c, rfl, hc, hnil, _⟩ := hv
  obtain ⟨a2, c2, rfl, hc2, hnil2, _⟩ := hu
  clear hc hc2 hnil hnil2
  go_enter Try.func15, Try.ntmps15
  go_wp2
  go_ret
  refine ⟨ret_bool ?_, rfl⟩
  show (_ == _) = _
  rw [Bool.eq_iff_iff]
  simp
theorem spoil_any {w : World} {B : Nat} (v : Value) (x : List UInt8) (hown : w.ownsRow B 5 1 v x.length (Lib.byteCells x)) (hx : x.length ≤ 1099511627776) :
    Calls Try.prog 18 #[v] w fun r w' => r = .returned (.tuple #[]) ∧ Moved (fun k => B ≤ k) w w' := by
  have HO : Hid (∃ x' : List UInt8, x'.length = x.length ∧ w.ownsRow B 5 1 v x.length (Lib.byteCells x')) := ⟨x, rfl, hown⟩
  rcases hown.2 with ⟨rfl, hn⟩ | ⟨g, cap, cur, rfl, hg, _, _⟩
  · clear HO hown
    go_enter Try.func18, Try.ntmps18
    go_wp2_with fail
    refine wp_loop_rounds 1 ?_
    rw [rounds_succ]
    go_wp2
    go_end0
    exact ⟨rfl, Moved.refl _ _⟩
  · clear hown
    go_enter Try.func18, Try.ntmps18
    go_wp2_with fail
    go_loopw [2] (fun i wr => ∃ k : Nat, k ≤ x.length ∧ i = .int .i64 k ∧ Hid ((∃ x' : List UInt8, x'.length = x.length ∧ wr.ownsRow B 5 1 (.slice (some ⟨g, 0, none⟩) x.length cap) x.length (Lib.byteCells x')) ∧ Moved (fun k => B ≤ k) w wr)) (fun i _ => x.length - (intOf i).toNat)
    case atStart => exact ⟨0, Nat.zero_le _, rfl, HO.out, Moved.refl _ _⟩
    case round =>
      obtain ⟨k, hk, rfl, HW⟩ := hrel
      obtain ⟨⟨x', hx', ho⟩, hm⟩ := HW.out
      clear HW HO
      by_cases hlt : k < x.length
      · have hc : wr.cell? ⟨g, k, none⟩ = some (.int .u8 ((x'[k]'(by omega)).toNat)) := by
          rw [World.ownsRow.cellAt ho k (by omega)]
          simp [Lib.byteCells, List.getElem?_eq_getElem (show k < x'.length by omega)]
        have hf : wr.frozen? ⟨g, k, none⟩ = false := ho.frozenAt k
        have b0 : (0 : Int) ≤ (x'[k]'(by omega)).toNat := by omega
        have b1 : ((x'[k]'(by omega)).toNat : Int) ≤ 255 := by have := (x'[k]'(by omega)).toNat_lt; omega
        have HN := Lib.hid (And.intro ho hm)
        clear ho hm
        go_wp2
        go_roundw
        case rel =>
          have hb : ((UInt8.ofNat (bits BinOp.xor IntKind.u8 (x'[k]'(by omega)).toNat 165).toNat).toNat : Int) = bits BinOp.xor IntKind.u8 (x'[k]'(by omega)).toNat 165 := by
            have h1 := bits_lo_u8 .xor (x'[k]'(by omega)).toNat 165
            have h2 := bits_hi_u8 .xor (x'[k]'(by omega)).toNat 165
            rw [UInt8.toNat_ofNat']; omega
          refine ⟨k + 1, by omega, by go_num, ⟨x'.set k (UInt8.ofNat (bits BinOp.xor IntKind.u8 (x'[k]'(by omega)).toNat 165).toNat), by simpa using hx', ?_⟩, HN.out.2.trans' ((moved_at wr g k _).mono (fun j _ hj => by rw [hj]; exact hg))⟩
          have h3 := (HN.out.1.stored k (.int .u8 (bits BinOp.xor IntKind.u8 (x'[k]'(by omega)).toNat 165))).1
          have h4 : (Lib.byteCells x').set k (.int .u8 (bits BinOp.xor IntKind.u8 (x'[k]'(by omega)).toNat 165)) = Lib.byteCells (x'.set k (UInt8.ofNat (bits BinOp.xor IntKind.u8 (x'[k]'(by omega)).toNat 165).toNat)) := by
            unfold Lib.byteCells
            rw [List.map_set, hb]
          rw [h4] at h3
          exact h3
        case measure => simp [intOf]; omega
      · clear ho
        go_wp2
        go_end0
        exact ⟨rfl, hm⟩
theorem bring_eq (i n : Int) (h : 0 < n) : (i.tmod n < 0 → i.tmod n + n = i % n) ∧ (¬ i.tmod n < 0 → i.tmod n = i % n) ∧ -n < i.tmod n ∧ i.tmod n < n := by
  have h1 := Int.emod_nonneg i (show n ≠ 0 by omega)
  have h2 := Int.emod_lt_of_pos i h
  rw [Int.tmod_eq_emod]
  by_cases hc : 0 ≤ i ∨ n ∣ i
  · rw [if_pos hc]
    refine ⟨fun h => ?_, fun _ => ?_, ?_, ?_⟩ <;> simp only [Int.ofNat_zero, Int.sub_zero] at * <;> omega
  · rw [if_neg hc]
    have h3 : (n.natAbs : Int) = n := by omega
    have h4 : i % n ≠ 0 := fun h => hc (.inr (Int.dvd_of_emod_eq_zero h))
    rw [h3]
    refine ⟨fun h => ?_, fun _ => ?_, ?_, ?_⟩ <;> omega
theorem bring_any (i n : Int) (w : World) (hn : 0 < n) (hn2 : n ≤ 1048577) : Calls Try.prog 21 #[.int .i64 i, .int .i64 n] w fun r w' => r = .returned (.int .i64 (i % n)) ∧ w' = w := by
  obtain ⟨b1, b2, b3, b4⟩ := bring_eq i n hn
  have B1 := Lib.hid b1
  have B2 := Lib.hid b2
  clear b1 b2
  go_enter Try.func21, Try.ntmps21
  go_wp2
  · go_ret
    refine ⟨ret_int ?_, rfl⟩
    exact B1.out (by assumption)
  · go_ret
    exact ⟨ret_int (B2.out (by assumption)), rfl⟩
theorem short_any (s : ByteArray) (n : Int) (w : World) (hn : 0 ≤ n) (hs : s.size ≤ 9223372036854775807) : Calls Try.prog 24 #[.string s, .int .i64 n] w fun r w' => r = .returned (.string (s.extract 0 (min s.size n.toNat))) ∧ w' = w := by
  have H : Hid ((n ≤ s.size → s.extract 0 (min s.size n.toNat) = s.extract 0 n.toNat) ∧ (s.size ≤ n → s.extract 0 (min s.size n.toNat) = s)) := by
    refine ⟨fun h => by rw [show min s.size n.toNat = n.toNat by omega], fun h => ?_⟩
    rw [show min s.size n.toNat = s.size by omega]
    exact ByteArray.extract_zero_size
  generalize s.extract 0 (min s.size n.toNat) = z at *
  go_enter Try.func24, Try.ntmps24
  go_wp2
  · go_ret
    exact ⟨by rw [H.out.1 (by omega)]; rfl, rfl⟩
  · go_ret
    exact ⟨by rw [H.out.2 (by omega)]; rfl, rfl⟩
def roomOf (most : Int) : Int := min (max most 0) 1048576
theorem new_any (most : Int) (w : World) : Calls Try.prog 9 #[.int .i64 most] w fun r w' => r = .returned (bptr w.heap.size) ∧ BufAt w.heap.size w' w.heap.size none [] (roomOf most) 0 ∧ Grew w w' ∧ w.heap.size < w'.heap.size := by
  have H : Hid (∀ m : Int, m = roomOf most → BufAt w.heap.size (w.alloc (.cells #[.bool true, .slice none 0 0, .int .i64 m, .int .i64 0] 55)) w.heap.size none [] (roomOf most) 0 ∧ Grew w (w.alloc (.cells #[.bool true, .slice none 0 0, .int .i64 m, .int .i64 0] 55)) ∧ w.heap.size < (w.alloc (.cells #[.bool true, .slice none 0 0, .int .i64 m, .int .i64 0] 55)).heap.size) := by
    rintro m rfl
    exact ⟨⟨Nat.le_refl _, _, heap_alloc_new _ _, World.ownsRow_nil _ _ _ _, rfl, by simp⟩, (Grew.refl w).alloc _, by simp⟩
  have HR : Hid ((most < 0 → 0 = roomOf most) ∧ (0 ≤ most → most ≤ 1048576 → most = roomOf most) ∧ (1048576 ≤ most → 1048576 = roomOf most)) := by
    unfold roomOf; exact ⟨by omega, by omega, by omega⟩
  generalize roomOf most = rm at *
  go_enter Try.func9, Try.ntmps9
  go_wp2
  all_goals
    go_ret
    refine ⟨rfl, H.out _ ?_⟩
    first | exact HR.out.1 (by omega) | exact HR.out.2.1 (by omega) (by omega) | exact HR.out.2.2 (by omega)
theorem rnew_any (most : Int) (w : World) : Calls Try.prog 10 #[.int .i64 most] w fun r w' => r = .returned (bptr w.heap.size) ∧ RefAt w.heap.size w' w.heap.size none [] (roomOf most) 0 ∧ Grew w w' ∧ w.heap.size < w'.heap.size := by
  have H : Hid (∀ m : Int, m = roomOf most → RefAt w.heap.size (w.alloc (.cells #[.slice none 0 0, .int .i64 m, .int .i64 0] 39)) w.heap.size none [] (roomOf most) 0 ∧ Grew w (w.alloc (.cells #[.slice none 0 0, .int .i64 m, .int .i64 0] 39)) ∧ w.heap.size < (w.alloc (.cells #[.slice none 0 0, .int .i64 m, .int .i64 0] 39)).heap.size) := by
    rintro m rfl
    exact ⟨⟨Nat.le_refl _, _, heap_alloc_new _ _, World.ownsRow_nil _ _ _ _, rfl, by simp⟩, (Grew.refl w).alloc _, by simp⟩
  have HR : Hid ((most < 0 → 0 = roomOf most) ∧ (0 ≤ most → most ≤ 1048576 → most = roomOf most) ∧ (1048576 ≤ most → 1048576 = roomOf most)) := by
    unfold roomOf; exact ⟨by omega, by omega, by omega⟩
  generalize roomOf most = rm at *
  go_enter Try.func10, Try.ntmps10
  go_wp2
  all_goals
    go_ret
    refine ⟨rfl, H.out _ ?_⟩
    first | exact HR.out.1 (by omega) | exact HR.out.2.1 (by omega) (by omega) | exact HR.out.2.2 (by omega)
end Go.Proofs.Ytejaklkageieoaa
