/-
  BufKnown: extreme capacities, invalid widths, several strings at once, nil and zero buffers.
-/
import Derived.Test.YtejaklkageieoaaBufPlays
import Derived.Test.YtejaklkageieoaaBufNone
import Derived.Test.YtejaklkageieoaaShelf
namespace Go.Proofs.Ytejaklkageieoaa
open Go Go.ChangeShapes Go.WideShapes Go.ChangeAt Go.RowKit Go.Joins
open Go.ChangeMaps (open_string shut_string)
set_option linter.unusedVariables false
set_option linter.unusedSimpArgs false

theorem BufAt.under {B : Nat} {w0 w : World} {p : Nat} {o : Option Nat} {l : List UInt8} {most e : Int} (h : BufAt B w0 p o l most e) (hb : Below w0.heap.size w0 w) : BufAt B w p o l most e := h.grew hb
theorem Live.under {w0 w1 w : World} {p : Nat} {most : Int} {s : St} (h : Live w0 w1 p most s) (hb : Below w1.heap.size w1 w) : Live w0 w p most s := h.grew hb
theorem repeatA (w : World) : Calls Try.prog 28 #[.string ⟨#[97]⟩, .int .i64 1048576] w fun r w' => ∃ z, r = .returned (.string z) ∧ z.size = 1048576 ∧ Grew w w' :=
  (Try.strings_Repeat ⟨#[97]⟩ 1048576 w (by decide) (by decide)).mono fun r w' ⟨hr, hg⟩ => ⟨_, hr, by
    show (Lib.repeatL [97] 1048576).toArray.size = 1048576
    rw [List.size_toArray, Lib.repeatL_length]; rfl, hg⟩
theorem ok_do (a b c u : Int) (s : ByteArray) (h0 : 0 ≤ u) (h1 : u ≤ 18446744073709551615) (h2 : s.size ≤ 9223372036854775807) : DoV.ok ⟨a, b, c, u, s⟩ := ⟨h0, h1, h2⟩
/-- Text with no string at all. -/
theorem textL0 {w0 w : World} {p : Nat} {most : Int} {s : St} (h : Live w0 w p most s) : Calls Try.prog 23 #[bptr p, .slice none 0 0] w fun r w' => r = .returned (.tuple #[]) ∧ Live w0 w' p most (putS most [] s) := by
  obtain ⟨o, h1, h2, h3, h4⟩ := h
  exact (text_any s (.slice none 0 0) [] h1 h2.size h3 h4 ⟨none, 0, rfl, by simp⟩ (by simp) (by simp [sizeS]) (fun ad n c e => by cases e)).mono fun r w' ⟨hr, ht⟩ => ⟨hr, Live.turn h1 h2 ht (putS_le h3) h4⟩
theorem plays1 (most : Int) (d0 : DoV) (k : Nat) (w : World) (hk : k = w.heap.size) (h0 : d0.ok) :
    Calls Try.prog 3 #[.int .i64 most, .slice (some ⟨k, 0, none⟩) 1 1] (w.alloc (.cells #[.int .i64 d0.kind, .int .i64 d0.w, .int .i64 d0.n, .int .u64 d0.u, .string d0.s] 30)) fun r w' => r = .returned (.bool true) ∧ Below w.heap.size w w' := by
  subst hk
  have hg := (Grew.refl w).alloc (.cells #[.int .i64 d0.kind, .int .i64 d0.w, .int .i64 d0.n, .int .u64 d0.u, .string d0.s] 30)
  refine (bufPlays_any most _ [d0] _ ⟨some ⟨w.heap.size, 0, none⟩, 1, rfl, Nat.le_refl _, fun i x hx => ⟨_, 0, rfl, ?_⟩⟩ (by simp) ?_).mono fun r w' ⟨hr, hb⟩ => ⟨hr, Below.trans hg (Below.mono hb hg.size)⟩
  · match i, hx with
    | 0, hx => simp at hx; subst hx; exact ⟨by rw [cell_of_row _ _ _ _ _ _ (heap_alloc_new _ _)]; rfl, by rw [cell_of_row _ _ _ _ _ _ (heap_alloc_new _ _)]; rfl, by rw [cell_of_row _ _ _ _ _ _ (heap_alloc_new _ _)]; rfl, by rw [cell_of_row _ _ _ _ _ _ (heap_alloc_new _ _)]; rfl, by rw [cell_of_row _ _ _ _ _ _ (heap_alloc_new _ _)]; rfl⟩
    | i + 1, hx => simp at hx
  · intro x hx
    simp at hx
    subst hx; exact h0
theorem plays2 (most : Int) (d0 d1 : DoV) (k : Nat) (w : World) (hk : k = w.heap.size) (h0 : d0.ok) (h1 : d1.ok) :
    Calls Try.prog 3 #[.int .i64 most, .slice (some ⟨k, 0, none⟩) 2 2] (w.alloc (.cells #[.int .i64 d0.kind, .int .i64 d0.w, .int .i64 d0.n, .int .u64 d0.u, .string d0.s, .int .i64 d1.kind, .int .i64 d1.w, .int .i64 d1.n, .int .u64 d1.u, .string d1.s] 30)) fun r w' => r = .returned (.bool true) ∧ Below w.heap.size w w' := by
  subst hk
  have hg := (Grew.refl w).alloc (.cells #[.int .i64 d0.kind, .int .i64 d0.w, .int .i64 d0.n, .int .u64 d0.u, .string d0.s, .int .i64 d1.kind, .int .i64 d1.w, .int .i64 d1.n, .int .u64 d1.u, .string d1.s] 30)
  refine (bufPlays_any most _ [d0, d1] _ ⟨some ⟨w.heap.size, 0, none⟩, 2, rfl, Nat.le_refl _, fun i x hx => ⟨_, 0, rfl, ?_⟩⟩ (by simp) ?_).mono fun r w' ⟨hr, hb⟩ => ⟨hr, Below.trans hg (Below.mono hb hg.size)⟩
  · match i, hx with
    | 0, hx => simp at hx; subst hx; exact ⟨by rw [cell_of_row _ _ _ _ _ _ (heap_alloc_new _ _)]; rfl, by rw [cell_of_row _ _ _ _ _ _ (heap_alloc_new _ _)]; rfl, by rw [cell_of_row _ _ _ _ _ _ (heap_alloc_new _ _)]; rfl, by rw [cell_of_row _ _ _ _ _ _ (heap_alloc_new _ _)]; rfl, by rw [cell_of_row _ _ _ _ _ _ (heap_alloc_new _ _)]; rfl⟩
    | 1, hx => simp at hx; subst hx; exact ⟨by rw [cell_of_row _ _ _ _ _ _ (heap_alloc_new _ _)]; rfl, by rw [cell_of_row _ _ _ _ _ _ (heap_alloc_new _ _)]; rfl, by rw [cell_of_row _ _ _ _ _ _ (heap_alloc_new _ _)]; rfl, by rw [cell_of_row _ _ _ _ _ _ (heap_alloc_new _ _)]; rfl, by rw [cell_of_row _ _ _ _ _ _ (heap_alloc_new _ _)]; rfl⟩
    | i + 2, hx => simp at hx
  · intro x hx
    simp at hx
    rcases hx with rfl | rfl
    · exact h0
    · exact h1
theorem plays3 (most : Int) (d0 d1 d2 : DoV) (k : Nat) (w : World) (hk : k = w.heap.size) (h0 : d0.ok) (h1 : d1.ok) (h2 : d2.ok) :
    Calls Try.prog 3 #[.int .i64 most, .slice (some ⟨k, 0, none⟩) 3 3] (w.alloc (.cells #[.int .i64 d0.kind, .int .i64 d0.w, .int .i64 d0.n, .int .u64 d0.u, .string d0.s, .int .i64 d1.kind, .int .i64 d1.w, .int .i64 d1.n, .int .u64 d1.u, .string d1.s, .int .i64 d2.kind, .int .i64 d2.w, .int .i64 d2.n, .int .u64 d2.u, .string d2.s] 30)) fun r w' => r = .returned (.bool true) ∧ Below w.heap.size w w' := by
  subst hk
  have hg := (Grew.refl w).alloc (.cells #[.int .i64 d0.kind, .int .i64 d0.w, .int .i64 d0.n, .int .u64 d0.u, .string d0.s, .int .i64 d1.kind, .int .i64 d1.w, .int .i64 d1.n, .int .u64 d1.u, .string d1.s, .int .i64 d2.kind, .int .i64 d2.w, .int .i64 d2.n, .int .u64 d2.u, .string d2.s] 30)
  refine (bufPlays_any most _ [d0, d1, d2] _ ⟨some ⟨w.heap.size, 0, none⟩, 3, rfl, Nat.le_refl _, fun i x hx => ⟨_, 0, rfl, ?_⟩⟩ (by simp) ?_).mono fun r w' ⟨hr, hb⟩ => ⟨hr, Below.trans hg (Below.mono hb hg.size)⟩
  · match i, hx with
    | 0, hx => simp at hx; subst hx; exact ⟨by rw [cell_of_row _ _ _ _ _ _ (heap_alloc_new _ _)]; rfl, by rw [cell_of_row _ _ _ _ _ _ (heap_alloc_new _ _)]; rfl, by rw [cell_of_row _ _ _ _ _ _ (heap_alloc_new _ _)]; rfl, by rw [cell_of_row _ _ _ _ _ _ (heap_alloc_new _ _)]; rfl, by rw [cell_of_row _ _ _ _ _ _ (heap_alloc_new _ _)]; rfl⟩
    | 1, hx => simp at hx; subst hx; exact ⟨by rw [cell_of_row _ _ _ _ _ _ (heap_alloc_new _ _)]; rfl, by rw [cell_of_row _ _ _ _ _ _ (heap_alloc_new _ _)]; rfl, by rw [cell_of_row _ _ _ _ _ _ (heap_alloc_new _ _)]; rfl, by rw [cell_of_row _ _ _ _ _ _ (heap_alloc_new _ _)]; rfl, by rw [cell_of_row _ _ _ _ _ _ (heap_alloc_new _ _)]; rfl⟩
    | 2, hx => simp at hx; subst hx; exact ⟨by rw [cell_of_row _ _ _ _ _ _ (heap_alloc_new _ _)]; rfl, by rw [cell_of_row _ _ _ _ _ _ (heap_alloc_new _ _)]; rfl, by rw [cell_of_row _ _ _ _ _ _ (heap_alloc_new _ _)]; rfl, by rw [cell_of_row _ _ _ _ _ _ (heap_alloc_new _ _)]; rfl, by rw [cell_of_row _ _ _ _ _ _ (heap_alloc_new _ _)]; rfl⟩
    | i + 3, hx => simp at hx
  · intro x hx
    simp at hx
    rcases hx with rfl | rfl | rfl
    · exact h0
    · exact h1
    · exact h2

set_option maxRecDepth 100000 in
set_option maxHeartbeats 8000000 in
theorem bufKnown_any (w : World) : Calls Try.prog 8 #[] w fun r w' => r = .returned (.bool true) ∧ Below w.heap.size w w' := by
  go_enter Try.func8, Try.ntmps8
  go_wp2_with fail
  refine (newL (w0 := w) (-5) (Below.refl _ _)).mono ?_
  rw [show roomOf (-5) = 0 by kernel_rfl]
  rintro r u0 ⟨rfl, h, hg, hlt⟩
  have H0 := Lib.hid h
  clear h hg hlt
  generalize w.heap.size = p at *
  go_wp2_with fail
  refine (textL0 H0.out).mono ?_
  rintro r u1 ⟨rfl, h⟩
  rw [show putS 0 [] (([], 0) : St) = (([], 0) : St) by kernel_rfl] at h
  have H1 := Lib.hid h
  clear h
  go_wp2_with fail
  refine (alignL 1 H1.out).mono ?_
  rintro r u2 ⟨rfl, h⟩
  rw [show alignS 0 1 (([], 0) : St) = (([], 0) : St) by kernel_rfl] at h
  have H2 := Lib.hid h
  clear h
  go_wp2_with fail
  refine (textL2 ⟨#[]⟩ ⟨#[]⟩ _ (by simp) (by decide) H2.out).mono ?_
  rintro r u3 ⟨rfl, h⟩
  rw [show putS 0 (bytesS [⟨#[]⟩, ⟨#[]⟩]) (([], 0) : St) = (([], 0) : St) by kernel_rfl] at h
  have H3 := Lib.hid h
  clear h
  go_wp2_with fail
  refine (has_yes H3.out 0 ⟨#[]⟩ (by rfl) (by kernel_rfl)).mono ?_
  rintro r u4 ⟨rfl, h⟩
  have H4 := Lib.hid h
  clear h
  go_wp2_with fail
  refine (textL1 ⟨#[97]⟩ _ (by simp) (by decide) H4.out).mono ?_
  rintro r u5 ⟨rfl, h⟩
  rw [show putS 0 (bytesS [⟨#[97]⟩]) (([], 0) : St) = (([], 5) : St) by kernel_rfl] at h
  have HB := Lib.hid h
  clear h H0 H1 H2 H3 H4
  go_wp2_with fail
  refine (newL (w0 := u5) 9223372036854775807 (Below.refl _ _)).mono ?_
  rw [show roomOf 9223372036854775807 = 1048576 by kernel_rfl]
  rintro r u6 ⟨rfl, h, hg, hlt⟩
  have H6 := Lib.hid h
  clear h hg hlt
  generalize hpc : u5.heap.size = pc at *
  clear hpc
  go_wp2_with fail
  refine (repeatA _).mono ?_
  rintro r u7 ⟨z, rfl, hz, hg⟩
  have H7 := Lib.hid (H6.out.grew hg)
  have hz1 : z.size ≤ 1073741824 := by omega
  have HZ := Lib.hid hz
  clear hg hz
  go_wp2_with fail
  refine (textL1 z _ (by simp) (by simp [sizeS]; omega) H7.out).mono ?_
  rintro r u8 ⟨rfl, h⟩
  have hbz : (bytesS [z]).length = 1048576 := by rw [bytesS_length]; simp [sizeS]; exact HZ.out
  rw [put_fit _ _ _ (by rw [hbz]; simp), List.nil_append] at h
  have H8 := Lib.hid h
  have HBZ := Lib.hid hbz
  clear h hbz H6 H7
  generalize bytesS [z] = bz at *
  go_wp2_with fail
  refine (errL H8.out).mono ?_
  rintro r u9 ⟨rfl, rfl⟩
  go_wp2_with fail
  refine (lenL H8.out).mono ?_
  rw [show ((((bz, 0) : St).1.length : Nat) : Int) = 1048576 by rw [HBZ.out]; rfl]
  rintro r u10 ⟨rfl, rfl⟩
  go_wp2_with fail
  refine (alignL 8 H8.out).mono ?_
  rintro r u11 ⟨rfl, h⟩
  have e8 : alignS 1048576 8 (bz, 0) = (bz, 0) := by
    unfold alignS
    rw [if_pos (by decide), show padN (((bz, 0) : St).1) 8 = 0 by unfold padN; rw [HBZ.out]; rfl]
    rw [put_fit _ _ _ (by rw [HBZ.out]; simp [zeros])]
    simp [zeros]
  rw [e8] at h
  have H11 := Lib.hid h
  clear h e8 H8
  go_wp2_with fail
  refine (textL1 ⟨#[97]⟩ _ (by simp) (by decide) H11.out).mono ?_
  rintro r u12 ⟨rfl, h⟩
  have e9 : putS 1048576 (bytesS [⟨#[97]⟩]) (bz, 0) = (bz, 5) := by
    show (putL bz (bytesS [⟨#[97]⟩]) 1048576 0, putE bz (bytesS [⟨#[97]⟩]) 1048576 0) = _
    have e : (bytesS [⟨#[97]⟩]).length = 1 := by rw [bytesS_length]; rfl
    unfold putL putE
    rw [if_neg (by rw [e, HBZ.out]; omega), if_pos (by rw [e, HBZ.out]; omega)]
  rw [e9] at h
  have HC := Lib.hid h
  clear h e9 H11
  go_wp2_with fail
  refine (newL (w0 := u12) 5 (Below.refl _ _)).mono ?_
  rw [show roomOf 5 = 5 by kernel_rfl]
  rintro r u13 ⟨rfl, h, hg, hlt⟩
  have H13 := Lib.hid h
  clear h hg hlt
  generalize hpd : u12.heap.size = pd at *
  clear hpd
  go_wp2_with fail
  refine (textL2 ⟨#[97, 98, 99]⟩ ⟨#[100, 101, 102]⟩ _ (by simp) (by decide) H13.out).mono ?_
  rintro r u14 ⟨rfl, h⟩
  rw [show putS 5 (bytesS [⟨#[97, 98, 99]⟩, ⟨#[100, 101, 102]⟩]) (([], 0) : St) = (([], 5) : St) by kernel_rfl] at h
  have HD := Lib.hid h
  have HC2 := Lib.hid (HC.out.under h.below)
  have HB2 := Lib.hid (HB.out.under (HC2.out.below))
  clear h H13 HB HC
  go_wp2_with fail
  refine (errL HB2.out).mono ?_
  rintro r w' ⟨rfl, rfl⟩
  go_wp2_with fail
  refine (lenL HB2.out).mono ?_
  rw [show ((((([], 5) : St).1.length : Nat)) : Int) = 0 by rfl]
  rintro r w' ⟨rfl, rfl⟩
  go_wp2_with fail
  refine (errL HC2.out).mono ?_
  rintro r w' ⟨rfl, rfl⟩
  go_wp2_with fail
  refine (errL HD.out).mono ?_
  rintro r w' ⟨rfl, rfl⟩
  go_wp2_with fail
  refine (lenL HD.out).mono ?_
  rw [show ((((([], 5) : St).1.length : Nat)) : Int) = 0 by rfl]
  rintro r u20 ⟨rfl, rfl⟩
  have HW0 := Lib.hid HB2.out.below
  clear HB2 HC2 HD HZ HBZ
  go_wp2_with fail
  go_loopw [5] (fun i wr => ∃ x : Int, -1 ≤ x ∧ x ≤ 18 ∧ i = .int .i64 x ∧ Hid (Below w.heap.size w wr)) (fun i _ => (18 - intOf i).toNat)
  case atStart => exact ⟨-1, by omega, by omega, rfl, HW0⟩
  case round =>
    obtain ⟨x, hx1, hx2, rfl, HW⟩ := hrel
    by_cases hlt : x < 18
    · clear HW0
      go_wp2_with fail
      refine (plays2 100 ⟨2, 0, 0, 0, ⟨#[97, 98, 99]⟩⟩ ⟨0, x, 0, 0, ⟨#[]⟩⟩ _ _ (by simp) (ok_do _ _ _ _ _ (by omega) (by omega) (by decide)) (ok_do _ _ _ _ _ (by omega) (by omega) (by decide))).mono ?_
      rintro r wa ⟨rfl, hb⟩
      have HW := Lib.hid (Below.trans HW.out (Below.mono hb HW.out.size))
      clear hb
      go_wp2_with fail
      refine (plays1 100 ⟨1, x, 0, 255, ⟨#[]⟩⟩ _ _ (by simp) (ok_do _ _ _ _ _ (by omega) (by omega) (by decide))).mono ?_
      rintro r wa ⟨rfl, hb⟩
      have HW := Lib.hid (Below.trans HW.out (Below.mono hb HW.out.size))
      clear hb
      go_wp2_with fail
      refine (plays3 100 ⟨2, 0, 0, 0, ⟨#[97, 98, 99]⟩⟩ ⟨3, 0, x, 0, ⟨#[]⟩⟩ ⟨1, 1, 0, x + 1, ⟨#[]⟩⟩ _ _ (by simp) (ok_do _ _ _ _ _ (by omega) (by omega) (by decide)) (ok_do _ _ _ _ _ (by omega) (by omega) (by decide)) (ok_do _ _ _ _ _ (by omega) (by omega) (by decide))).mono ?_
      rintro r wa ⟨rfl, hb⟩
      have HW := Lib.hid (Below.trans HW.out (Below.mono hb HW.out.size))
      clear hb
      go_wp2_with fail
      refine (plays3 x ⟨4, 0, 0, 0, ⟨#[97, 98, 99]⟩⟩ ⟨0, 8, 0, 0, ⟨#[]⟩⟩ ⟨1, 8, 0, 18446744073709551615, ⟨#[]⟩⟩ _ _ (by simp) (ok_do _ _ _ _ _ (by omega) (by omega) (by decide)) (ok_do _ _ _ _ _ (by omega) (by omega) (by decide)) (ok_do _ _ _ _ _ (by omega) (by omega) (by decide))).mono ?_
      rintro r wa ⟨rfl, hb⟩
      have HW := Lib.hid (Below.trans HW.out (Below.mono hb HW.out.size))
      clear hb
      go_wp2_with fail
      go_roundw
      case rel => exact ⟨x + 1, by omega, by omega, rfl, HW⟩
      case measure => simp [intOf]; omega
    · clear HW0
      go_wp2_with fail
      go_loopw [6, 7] (fun q i wr => ∃ k : Nat, k ≤ 2 ∧ i = .int .i64 k ∧ ∃ v, q = .pointer v ∧ Hid (NoBuf wr v ∧ Below w.heap.size w wr)) (fun _ i _ => 2 - (intOf i).toNat)
      case atStart => exact ⟨0, by omega, rfl, none, rfl, .inl rfl, HW.out⟩
      case round =>
        obtain ⟨k, hk, rfl, v, rfl, HN⟩ := hrel
        clear HW
        by_cases hk2 : k < 2
        · obtain ⟨wo, rfl⟩ : ∃ wo : World, wo = wr := ⟨_, rfl⟩
          have hd2 : decide ((k : Int) < 2) = true := by rw [decide_eq_true_iff]; omega
          go_wp2_with fail
          try rw [hd2]
          go_loopw [8] (fun i wr => ∃ m : Nat, m ≤ 5 ∧ i = .int .i64 m ∧ Hid (NoBuf wr v ∧ Below w.heap.size w wr)) (fun i _ => 5 - (intOf i).toNat)
          case atStart => exact ⟨0, by omega, rfl, HN⟩
          case round =>
            obtain ⟨m, hm, rfl, HM⟩ := hrel
            clear HN
            by_cases hm5 : m < 5
            · go_wp2_with fail
              refine (does_n m hm5 HM.out.1).mono ?_
              rintro r wa ⟨rfl, hg⟩
              have HX := Lib.hid (And.intro (HM.out.1.grew hg) (Below.trans HM.out.2 (Below.mono hg HM.out.2.size)))
              clear hg
              go_wp2_with fail
              go_roundw
              case rel => first | exact ⟨m + 1, by omega, by go_num, HX⟩ | ((repeat apply Exists.intro); refine ⟨⟨m + 1, by omega, ?hh, HX⟩, rfl⟩; go_num)
              case measure => simp [intOf]; omega
            · go_wp2_with fail
              refine (bytes_n HM.out.1).mono ?_
              rintro r w' ⟨rfl, rfl⟩
              go_wp2_with fail
              refine (err_n HM.out.1).mono ?_
              rintro r w' ⟨rfl, rfl⟩
              go_wp2_with fail
              refine (len_n HM.out.1).mono ?_
              rintro r w' ⟨rfl, rfl⟩
              go_wp2_with fail
              go_roundw
              case rel => exact ⟨k + 1, by omega, by go_num, some ⟨w'.heap.size, 0, none⟩, rfl, .inr ⟨_, rfl, heap_alloc_new _ _⟩, Below.alloc HM.out.2 HM.out.2.size _⟩
              case measure => simp [intOf]; omega
        · have HW := Lib.hid HN.out.2
          go_wp2_with fail
          refine (works_any _).mono ?_
          rintro r wa ⟨rfl, hb⟩
          have HW := Lib.hid (Below.trans HW.out (Below.mono hb HW.out.size))
          clear hb
          go_wp2_with fail
          refine (plays1 (-9223372036854775808) ⟨3, 0, -9223372036854775808, 0, ⟨#[]⟩⟩ _ _ (by simp) (ok_do _ _ _ _ _ (by omega) (by omega) (by decide))).mono ?_
          rintro r wa ⟨rfl, hb⟩
          have HW := Lib.hid (Below.trans HW.out (Below.mono hb HW.out.size))
          clear hb
          go_wp2_with fail
          refine (plays1 9 ⟨3, 0, 9223372036854775807, 0, ⟨#[]⟩⟩ _ _ (by simp) (ok_do _ _ _ _ _ (by omega) (by omega) (by decide))).mono ?_
          rintro r wa ⟨rfl, hb⟩
          have HW := Lib.hid (Below.trans HW.out (Below.mono hb HW.out.size))
          clear hb
          go_wp2_with fail
          go_ret
          exact ⟨rfl, HW.out⟩

theorem bufKnown_row {H : Type} (enc : TypeId × Value → H) (W : World) (base : Nat) :
    Calls Try.prog 8 #[] W fun e w' => e = .returned (.bool true) ∧ Below W.heap.size W w' := by
  exact bufKnown_any W

theorem bufKnown_own : ownKnob Try.prog.godebug = none := by kernel_rfl
theorem bufKnown_laidOut : laidOutB Try.prog = true := by kernel_rfl

set_option maxRecDepth 100000 in
theorem bufKnown_lifted (os : Os) (started : os.Started) (H : Type) (enc : TypeId × Value → H) :
    ReturnsInHanded {} Try.checked os 8 .any (Rows.bufKnownSpec.pre6 enc Try.prog Try.f8 Rows.bufKnownRow.domain false) (Rows.bufKnownSpec.post enc Try.prog Try.f8 false true false false) := by
  refine returnsInHanded_of_change (C := Try.checked) bufKnown_own started (by kernel_rfl) Try.func8
    (ChangeSpec.witness6 (enc := enc) (C := Try.checked) false ⟨#[], #[], []⟩ 8 (by kernel_rfl) (by kernel_rfl) (by kernel_rfl) (by kernel_rfl)) ?_
  intro W base args ds gs before hval0 hW hcnd _
  have hval : ∀ (j : Nat) t v, Try.f8.params[j]? = some t → args[j]? = some v → Value.okWide Try.prog W .any base t v := hval0
  have hW' := hW
  obtain ⟨p, q, hA0, hV, rfl, hfz, hnd⟩ := hW
  have hA : DataW.TrodAll enc Try.prog W 0 (fun _ => true) true Try.f8.params.toList args.toList ds p := hA0
  rw [Try.params8] at hA hval
  obtain ⟨rfl, rfl, rfl⟩ := trodAll_none hA
  obtain ⟨rfl, rfl⟩ := trodVars_none hV
  have hw := bufKnown_row enc W base 
  clear hA0 hval0
  refine hw.mono fun e W' ⟨he, bel⟩ => ?_
  subst he
  exact ⟨_, rfl, _, _, _, [], [], [], hW', trodAll_mk1 (shut_bool Try.underlying4 _), trodAll_mk0, rfl, Below.frame bel _, fun h => by cases h⟩

/-- The statement. -/
theorem bufKnown_holds : Rows.BufKnownSaid :=
  OpenClaim.holds_of_wide 8 Try.f8 rfl rfl rfl rfl rfl rfl rfl ⟨rfl, rfl, rfl, rfl, rfl⟩ rfl rfl rfl rfl rfl (by kernel_rfl) Try.func8 (by kernel_rfl)
    (of_decide_eq_true (by kernel_rfl)) (by unfold Func.isWrapper; first | (rw [if_pos (by decide +kernel)]; kernel_rfl) | (rw [if_neg (by decide +kernel)]; exact ⟨rfl, rfl⟩))
    (fun os started H enc _ => bufKnown_lifted os started H enc)


end Go.Proofs.Ytejaklkageieoaa
