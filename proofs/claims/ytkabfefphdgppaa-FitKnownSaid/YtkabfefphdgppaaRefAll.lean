/-
  Walks of the reference's all and All: they return the plain functions allAt and allF. Conditions: the values are a list in memory; each offset is a uint64. The world only grows.
-/
import Derived.Test.YtkabfefphdgppaaFitAll2
namespace Go.Proofs.Ytkabfefphdgppaa
open Go Go.RowKit

set_option maxRecDepth 100000 in
set_option maxHeartbeats 4000000 in
theorem refAllAt_any (l : List V3) (k1 : V3) (at_ ahead v : Int) (sv : Value) (w : World) (hv : isW v) (ha : isA ahead) (hl : l.length ≤ 1048576) (a0 : 0 ≤ at_) (a1 : at_ ≤ 1073741824)
    (hok : ∀ x ∈ l, okV x) (hokk : okV k1) (hs : ValsAt w sv l) :
    Calls Try.prog 30 #[.int .i64 at_, .int .i64 ahead, vV k1, sv, .int .i64 v] w fun e w' => e = .returned (.bool (allAt l k1 at_ ahead v)) ∧ Grew w w' := by
  obtain ⟨sa, cap, rfl, hc⟩ := hs
  obtain ⟨ky, kw, kn⟩ := k1
  have hv0 : 1 ≤ v ∧ v ≤ 8 := by rcases hv with rfl | rfl | rfl | rfl <;> omega
  rcases ha with rfl | rfl | rfl
  · have hh : headF l.length (ky, kw, kn) at_ 0 v = true := by simp [headF]
    go_enter Try.func30, Try.ntmps30
    go_wp2_with fail
    have hh' := Lib.hid hh
    clear hh
    go_loopw [11] (fun i wr => Grew (w.alloc (.cells #[.int .i64 ky, .int .i64 kw, .int .u64 kn] 24)) wr ∧ ∃ k : Nat, k ≤ l.length ∧ i = .int .i64 k ∧ Hid (fitsL l at_ 0 v = fitsL (l.drop k) at_ (0 + k) v)) (fun i _ => l.length - (intOf i).toNat)
    case atStart => exact ⟨Grew.refl _, 0, by omega, rfl, by show _ = _; simp⟩
    case round =>
      obtain ⟨hg, k, hk, rfl, hrest⟩ := hrel
      by_cases hlt : k < l.length
      · obtain ⟨x, hx⟩ : ∃ x, l[k]? = some x := ⟨_, List.getElem?_eq_getElem hlt⟩
        obtain ⟨b, off, rfl, c1, c2, c3⟩ := hc k x hx
        have ho := hok x (List.mem_of_getElem? hx)
        have d1 := hg.cell (Grew.cell ((Grew.refl w).alloc _) c1)
        have d2 := hg.cell (Grew.cell ((Grew.refl w).alloc _) c2)
        have d3 := hg.cell (Grew.cell ((Grew.refl w).alloc _) c3)
        have hd := Lib.hid (fitsL_drop l at_ 0 v k x hx)
        clear c1 c2 c3 hc
        obtain ⟨x1, x2, x3⟩ := x
        by_cases hf : fitsF x1 x2 x3 at_ (↑k) v = true
        · have HX := Lib.hid hf
          go_wp2_with fail
          refine (refFits_any _ _ _ _ _ _ _ hv ho.1 ho.2 a0 a1 (by omega) (by omega)).mono ?_
          rintro e w1 ⟨rfl, hg1⟩
          go_wp2
          go_roundw
          case rel => exact ⟨hg.trans hg1, k + 1, by omega, by go_num, by show _ = _; rw [hrest.out, hd.out]; unfold fitsV; rw [Int.zero_add]; rw [HX.out]; rfl⟩
          case measure => simp [intOf]; omega
        · have hf' : fitsF x1 x2 x3 at_ (↑k) v = false := by simpa using hf
          have HX := Lib.hid hf'
          clear hf
          go_wp2_with fail
          refine (refFits_any _ _ _ _ _ _ _ hv ho.1 ho.2 a0 a1 (by omega) (by omega)).mono ?_
          rintro e w1 ⟨rfl, hg1⟩
          go_wp2
          go_ret
          exact ⟨by unfold allAt; rw [hh'.out, hrest.out, hd.out]; unfold fitsV; rw [Int.zero_add]; rw [HX.out]; rfl, ((Grew.refl w).alloc _).trans (hg.trans hg1)⟩
      · obtain rfl : k = l.length := by omega
        go_wp2
        go_ret
        exact ⟨by unfold allAt; rw [hh'.out, hrest.out, List.drop_length]; rfl, ((Grew.refl w).alloc _).trans hg⟩
  · by_cases hb : belowW l.length v = true
    · have hh : headF l.length (ky, kw, kn) at_ 1 v = true := by simp [headF, hb]
      have HB := Lib.hid hb
      go_enter Try.func30, Try.ntmps30
      go_wp2_with fail
      refine (refBelow_any _ _ _ hv (by omega) (by omega)).mono ?_
      rintro e w2 ⟨rfl, rfl⟩
      go_wp2_with fail
      have hh' := Lib.hid hh
      clear hh
      go_loopw [11] (fun i wr => Grew (w.alloc (.cells #[.int .i64 ky, .int .i64 kw, .int .u64 kn] 24)) wr ∧ ∃ k : Nat, k ≤ l.length ∧ i = .int .i64 k ∧ Hid (fitsL l at_ 1 v = fitsL (l.drop k) at_ (1 + k) v)) (fun i _ => l.length - (intOf i).toNat)
      case atStart => exact ⟨Grew.refl _, 0, by omega, rfl, by show _ = _; simp⟩
      case round =>
        obtain ⟨hg, k, hk, rfl, hrest⟩ := hrel
        by_cases hlt : k < l.length
        · obtain ⟨x, hx⟩ : ∃ x, l[k]? = some x := ⟨_, List.getElem?_eq_getElem hlt⟩
          obtain ⟨b, off, rfl, c1, c2, c3⟩ := hc k x hx
          have ho := hok x (List.mem_of_getElem? hx)
          have d1 := hg.cell (Grew.cell ((Grew.refl w).alloc _) c1)
          have d2 := hg.cell (Grew.cell ((Grew.refl w).alloc _) c2)
          have d3 := hg.cell (Grew.cell ((Grew.refl w).alloc _) c3)
          have hd := Lib.hid (fitsL_drop l at_ 1 v k x hx)
          clear c1 c2 c3 hc
          obtain ⟨x1, x2, x3⟩ := x
          by_cases hf : fitsF x1 x2 x3 at_ (1 + ↑k) v = true
          · have HX := Lib.hid hf
            go_wp2_with fail
            refine (refFits_any _ _ _ _ _ _ _ hv ho.1 ho.2 a0 a1 (by omega) (by omega)).mono ?_
            rintro e w1 ⟨rfl, hg1⟩
            go_wp2
            go_roundw
            case rel => exact ⟨hg.trans hg1, k + 1, by omega, by go_num, by show _ = _; rw [hrest.out, hd.out]; unfold fitsV; rw [HX.out]; rfl⟩
            case measure => simp [intOf]; omega
          · have hf' : fitsF x1 x2 x3 at_ (1 + ↑k) v = false := by simpa using hf
            have HX := Lib.hid hf'
            clear hf
            go_wp2_with fail
            refine (refFits_any _ _ _ _ _ _ _ hv ho.1 ho.2 a0 a1 (by omega) (by omega)).mono ?_
            rintro e w1 ⟨rfl, hg1⟩
            go_wp2
            go_ret
            exact ⟨by unfold allAt; rw [hh'.out, hrest.out, hd.out]; unfold fitsV; rw [HX.out]; rfl, ((Grew.refl w).alloc _).trans (hg.trans hg1)⟩
        · obtain rfl : k = l.length := by omega
          go_wp2
          go_ret
          exact ⟨by unfold allAt; rw [hh'.out, hrest.out, List.drop_length]; rfl, ((Grew.refl w).alloc _).trans hg⟩
    · have hb' : belowW l.length v = false := by simpa using hb
      have hh : headF l.length (ky, kw, kn) at_ 1 v = false := by simp [headF, hb']
      have hh' := Lib.hid hh
      clear hb hh
      go_enter Try.func30, Try.ntmps30
      go_wp2_with fail
      refine (refBelow_any _ _ _ hv (by omega) (by omega)).mono ?_
      rintro e w2 ⟨rfl, rfl⟩
      go_wp2
      go_ret
      exact ⟨by unfold allAt; rw [hh'.out]; rfl, (Grew.refl w).alloc _⟩
  · by_cases hb : belowW l.length v = true
    · by_cases hkf : fitsF ky kw kn at_ 0 v = true
      · have hh : headF l.length (ky, kw, kn) at_ 3 v = true := by simp [headF, hb, fitsV, hkf]
        go_enter Try.func30, Try.ntmps30
        go_wp2_with fail
        refine (refBelow_any _ _ _ hv (by omega) (by omega)).mono ?_
        rintro e w2 ⟨rfl, rfl⟩
        go_wp2_with fail
        refine (refFits_any _ _ _ _ _ _ _ hv hokk.1 hokk.2 a0 a1 (by omega) (by omega)).mono ?_
        rintro e w2 ⟨rfl, hg0⟩
        replace hc : ∀ i x, l[i]? = some x → ∃ b off, sa = some ⟨b, off, none⟩ ∧ w2.cell? ⟨b, off + i * 3, none⟩ = some (.int .i64 x.1) ∧ w2.cell? ⟨b, off + i * 3 + 1, none⟩ = some (.int .i64 x.2.1) ∧ w2.cell? ⟨b, off + i * 3 + 2, none⟩ = some (.int .u64 x.2.2) :=
          fun i x hx => let ⟨b, off, e, p, q, r⟩ := hc i x hx; ⟨b, off, e, hg0.cell (Grew.cell ((Grew.refl w).alloc _) p), hg0.cell (Grew.cell ((Grew.refl w).alloc _) q), hg0.cell (Grew.cell ((Grew.refl w).alloc _) r)⟩
        go_wp2_with fail
        have hh' := Lib.hid hh
        clear hh
        go_loopw [11] (fun i wr => Grew w2 wr ∧ ∃ k : Nat, k ≤ l.length ∧ i = .int .i64 k ∧ Hid (fitsL l at_ 3 v = fitsL (l.drop k) at_ (3 + k) v)) (fun i _ => l.length - (intOf i).toNat)
        case atStart => exact ⟨Grew.refl _, 0, by omega, rfl, by show _ = _; simp⟩
        case round =>
          obtain ⟨hg, k, hk, rfl, hrest⟩ := hrel
          by_cases hlt : k < l.length
          · obtain ⟨x, hx⟩ : ∃ x, l[k]? = some x := ⟨_, List.getElem?_eq_getElem hlt⟩
            obtain ⟨b, off, rfl, c1, c2, c3⟩ := hc k x hx
            have ho := hok x (List.mem_of_getElem? hx)
            have d1 := hg.cell c1
            have d2 := hg.cell c2
            have d3 := hg.cell c3
            have hd := Lib.hid (fitsL_drop l at_ 3 v k x hx)
            clear c1 c2 c3 hc
            obtain ⟨x1, x2, x3⟩ := x
            by_cases hf : fitsF x1 x2 x3 at_ (3 + ↑k) v = true
            · have HX := Lib.hid hf
              go_wp2_with fail
              refine (refFits_any _ _ _ _ _ _ _ hv ho.1 ho.2 a0 a1 (by omega) (by omega)).mono ?_
              rintro e w1 ⟨rfl, hg1⟩
              go_wp2
              go_roundw
              case rel => exact ⟨hg.trans hg1, k + 1, by omega, by go_num, by show _ = _; rw [hrest.out, hd.out]; unfold fitsV; rw [HX.out]; rfl⟩
              case measure => simp [intOf]; omega
            · have hf' : fitsF x1 x2 x3 at_ (3 + ↑k) v = false := by simpa using hf
              have HX := Lib.hid hf'
              clear hf
              go_wp2_with fail
              refine (refFits_any _ _ _ _ _ _ _ hv ho.1 ho.2 a0 a1 (by omega) (by omega)).mono ?_
              rintro e w1 ⟨rfl, hg1⟩
              go_wp2
              go_ret
              exact ⟨by unfold allAt; rw [hh'.out, hrest.out, hd.out]; unfold fitsV; rw [HX.out]; rfl, (((Grew.refl w).alloc _).trans hg0).trans (hg.trans hg1)⟩
          · obtain rfl : k = l.length := by omega
            go_wp2
            go_ret
            exact ⟨by unfold allAt; rw [hh'.out, hrest.out, List.drop_length]; rfl, (((Grew.refl w).alloc _).trans hg0).trans hg⟩
      · have hkf' : fitsF ky kw kn at_ 0 v = false := by simpa using hkf
        have hh : headF l.length (ky, kw, kn) at_ 3 v = false := by simp [headF, hb, fitsV, hkf']
        have hh' := Lib.hid hh
        clear hkf hh
        go_enter Try.func30, Try.ntmps30
        go_wp2_with fail
        refine (refBelow_any _ _ _ hv (by omega) (by omega)).mono ?_
        rintro e w2 ⟨rfl, rfl⟩
        go_wp2_with fail
        refine (refFits_any _ _ _ _ _ _ _ hv hokk.1 hokk.2 a0 a1 (by omega) (by omega)).mono ?_
        rintro e w2 ⟨rfl, hg0⟩
        go_wp2
        go_ret
        exact ⟨by unfold allAt; rw [hh'.out]; rfl, ((Grew.refl w).alloc _).trans hg0⟩
    · have hb' : belowW l.length v = false := by simpa using hb
      have hh : headF l.length (ky, kw, kn) at_ 3 v = false := by simp [headF, hb']
      have hh' := Lib.hid hh
      clear hb hh
      go_enter Try.func30, Try.ntmps30
      go_wp2_with fail
      refine (refBelow_any _ _ _ hv (by omega) (by omega)).mono ?_
      rintro e w2 ⟨rfl, rfl⟩
      go_wp2
      go_ret
      exact ⟨by unfold allAt; rw [hh'.out]; rfl, (Grew.refl w).alloc _⟩

set_option maxRecDepth 100000 in
set_option maxHeartbeats 4000000 in
theorem refAll_any (l : List V3) (k : V3) (at_ ahead : Int) (sv : Value) (w : World) (hlen : l.length ≤ 9223372036854775807) (hok : ∀ x ∈ l, okV x) (hokk : okV k) (hs : ValsAt w sv l) :
    Calls Try.prog 16 #[.int .i64 at_, .int .i64 ahead, vV k, sv] w fun e w' => e = .returned (.int .i64 (allF l k at_ ahead)) ∧ Grew w w' := by
  have HS := Lib.hid hs
  obtain ⟨sa, cap, rfl, _⟩ := hs
  obtain ⟨ky, kw, kn⟩ := k
  by_cases ha : 0 ≤ at_ ∧ at_ ≤ 1073741824
  · obtain ⟨a0, a1⟩ := ha
    by_cases hi : isA ahead
    · by_cases hl : l.length ≤ 1048576
      · have hf : allF l (ky, kw, kn) at_ ahead = leastOf (fun v => allAt l (ky, kw, kn) at_ ahead v) := by unfold allF; rw [if_pos ⟨⟨a0, a1⟩, hi, hl⟩]
        have HF := Lib.hid hf
        have HI := Lib.hid hi
        clear hf
        rcases hi with rfl | rfl | rfl
        · go_enter Try.func16, Try.ntmps16
          go_wp2_with fail
          go_loopw [9] (fun v wr => Grew (w.alloc (.cells #[.int .i64 ky, .int .i64 kw, .int .u64 kn] 24)) wr ∧
            ((v = .int .i64 1) ∨ (v = .int .i64 2 ∧ allAt l (ky, kw, kn) at_ 0 1 = false) ∨ (v = .int .i64 4 ∧ allAt l (ky, kw, kn) at_ 0 1 = false ∧ allAt l (ky, kw, kn) at_ 0 2 = false) ∨
             (v = .int .i64 8 ∧ allAt l (ky, kw, kn) at_ 0 1 = false ∧ allAt l (ky, kw, kn) at_ 0 2 = false ∧ allAt l (ky, kw, kn) at_ 0 4 = false) ∨ (v = .int .i64 16 ∧ leastOf (fun v => allAt l (ky, kw, kn) at_ 0 v) = 0))) (fun v _ => 16 - (intOf v).toNat)
          case atStart => exact ⟨Grew.refl _, .inl rfl⟩
          case round =>
            obtain ⟨hg, hrel⟩ := hrel
            obtain ⟨hc, hr, hss⟩ := hg.rules
            simp only [World.size_alloc] at hc hr hss
            rcases hrel with rfl | ⟨rfl, f1⟩ | ⟨rfl, f1, f2⟩ | ⟨rfl, f1, f2, f4⟩ | ⟨rfl, fz⟩
            · by_cases hb : allAt l (ky, kw, kn) at_ 0 1 = true
              · have HB := Lib.hid hb
                go_wp2_with fail
                refine (refAllAt_any l (ky, kw, kn) _ _ _ _ _ (.inl rfl) HI.out hl a0 a1 hok hokk (HS.out.grew (((Grew.refl w).alloc _).trans hg))).mono ?_
                rintro e w1 ⟨rfl, hg1⟩
                go_wp2
                go_ret
                exact ⟨by rw [HF.out, leastOf_1 (fun v => allAt l (ky, kw, kn) at_ 0 v) hb]; rfl, (((Grew.refl w).alloc _).trans hg).trans hg1⟩
              · have hb' : allAt l (ky, kw, kn) at_ 0 1 = false := by simpa using hb
                clear hb
                go_wp2_with fail
                refine (refAllAt_any l (ky, kw, kn) _ _ _ _ _ (.inl rfl) HI.out hl a0 a1 hok hokk (HS.out.grew (((Grew.refl w).alloc _).trans hg))).mono ?_
                rintro e w1 ⟨rfl, hg1⟩
                go_wp2
                go_roundw
                case rel => exact ⟨hg.trans hg1, .inr (.inl ⟨rfl, hb'⟩)⟩
                case measure => simp [intOf]
            · by_cases hb : allAt l (ky, kw, kn) at_ 0 2 = true
              · have HB := Lib.hid hb
                go_wp2_with fail
                refine (refAllAt_any l (ky, kw, kn) _ _ _ _ _ (.inr (.inl rfl)) HI.out hl a0 a1 hok hokk (HS.out.grew (((Grew.refl w).alloc _).trans hg))).mono ?_
                rintro e w1 ⟨rfl, hg1⟩
                go_wp2
                go_ret
                exact ⟨by rw [HF.out, leastOf_2 (fun v => allAt l (ky, kw, kn) at_ 0 v) f1 hb]; rfl, (((Grew.refl w).alloc _).trans hg).trans hg1⟩
              · have hb' : allAt l (ky, kw, kn) at_ 0 2 = false := by simpa using hb
                clear hb
                go_wp2_with fail
                refine (refAllAt_any l (ky, kw, kn) _ _ _ _ _ (.inr (.inl rfl)) HI.out hl a0 a1 hok hokk (HS.out.grew (((Grew.refl w).alloc _).trans hg))).mono ?_
                rintro e w1 ⟨rfl, hg1⟩
                go_wp2
                go_roundw
                case rel => exact ⟨hg.trans hg1, .inr (.inr (.inl ⟨rfl, f1, hb'⟩))⟩
                case measure => simp [intOf]
            · by_cases hb : allAt l (ky, kw, kn) at_ 0 4 = true
              · have HB := Lib.hid hb
                go_wp2_with fail
                refine (refAllAt_any l (ky, kw, kn) _ _ _ _ _ (.inr (.inr (.inl rfl))) HI.out hl a0 a1 hok hokk (HS.out.grew (((Grew.refl w).alloc _).trans hg))).mono ?_
                rintro e w1 ⟨rfl, hg1⟩
                go_wp2
                go_ret
                exact ⟨by rw [HF.out, leastOf_4 (fun v => allAt l (ky, kw, kn) at_ 0 v) f1 f2 hb]; rfl, (((Grew.refl w).alloc _).trans hg).trans hg1⟩
              · have hb' : allAt l (ky, kw, kn) at_ 0 4 = false := by simpa using hb
                clear hb
                go_wp2_with fail
                refine (refAllAt_any l (ky, kw, kn) _ _ _ _ _ (.inr (.inr (.inl rfl))) HI.out hl a0 a1 hok hokk (HS.out.grew (((Grew.refl w).alloc _).trans hg))).mono ?_
                rintro e w1 ⟨rfl, hg1⟩
                go_wp2
                go_roundw
                case rel => exact ⟨hg.trans hg1, .inr (.inr (.inr (.inl ⟨rfl, f1, f2, hb'⟩)))⟩
                case measure => simp [intOf]
            · by_cases hb : allAt l (ky, kw, kn) at_ 0 8 = true
              · have HB := Lib.hid hb
                go_wp2_with fail
                refine (refAllAt_any l (ky, kw, kn) _ _ _ _ _ (.inr (.inr (.inr rfl))) HI.out hl a0 a1 hok hokk (HS.out.grew (((Grew.refl w).alloc _).trans hg))).mono ?_
                rintro e w1 ⟨rfl, hg1⟩
                go_wp2
                go_ret
                exact ⟨by rw [HF.out, leastOf_8 (fun v => allAt l (ky, kw, kn) at_ 0 v) f1 f2 f4 hb]; rfl, (((Grew.refl w).alloc _).trans hg).trans hg1⟩
              · have hb' : allAt l (ky, kw, kn) at_ 0 8 = false := by simpa using hb
                clear hb
                go_wp2_with fail
                refine (refAllAt_any l (ky, kw, kn) _ _ _ _ _ (.inr (.inr (.inr rfl))) HI.out hl a0 a1 hok hokk (HS.out.grew (((Grew.refl w).alloc _).trans hg))).mono ?_
                rintro e w1 ⟨rfl, hg1⟩
                go_wp2
                go_roundw
                case rel => exact ⟨hg.trans hg1, .inr (.inr (.inr (.inr (⟨rfl, by simp [leastOf, f1, f2, f4, hb']⟩))))⟩
                case measure => simp [intOf]
            · have FZ := Lib.hid fz
              clear fz
              go_wp2
              go_ret
              exact ⟨by rw [HF.out, FZ.out]; rfl, ((Grew.refl w).alloc _).trans hg⟩
        · go_enter Try.func16, Try.ntmps16
          go_wp2_with fail
          go_loopw [9] (fun v wr => Grew (w.alloc (.cells #[.int .i64 ky, .int .i64 kw, .int .u64 kn] 24)) wr ∧
            ((v = .int .i64 1) ∨ (v = .int .i64 2 ∧ allAt l (ky, kw, kn) at_ 1 1 = false) ∨ (v = .int .i64 4 ∧ allAt l (ky, kw, kn) at_ 1 1 = false ∧ allAt l (ky, kw, kn) at_ 1 2 = false) ∨
             (v = .int .i64 8 ∧ allAt l (ky, kw, kn) at_ 1 1 = false ∧ allAt l (ky, kw, kn) at_ 1 2 = false ∧ allAt l (ky, kw, kn) at_ 1 4 = false) ∨ (v = .int .i64 16 ∧ leastOf (fun v => allAt l (ky, kw, kn) at_ 1 v) = 0))) (fun v _ => 16 - (intOf v).toNat)
          case atStart => exact ⟨Grew.refl _, .inl rfl⟩
          case round =>
            obtain ⟨hg, hrel⟩ := hrel
            obtain ⟨hc, hr, hss⟩ := hg.rules
            simp only [World.size_alloc] at hc hr hss
            rcases hrel with rfl | ⟨rfl, f1⟩ | ⟨rfl, f1, f2⟩ | ⟨rfl, f1, f2, f4⟩ | ⟨rfl, fz⟩
            · by_cases hb : allAt l (ky, kw, kn) at_ 1 1 = true
              · have HB := Lib.hid hb
                go_wp2_with fail
                refine (refAllAt_any l (ky, kw, kn) _ _ _ _ _ (.inl rfl) HI.out hl a0 a1 hok hokk (HS.out.grew (((Grew.refl w).alloc _).trans hg))).mono ?_
                rintro e w1 ⟨rfl, hg1⟩
                go_wp2
                go_ret
                exact ⟨by rw [HF.out, leastOf_1 (fun v => allAt l (ky, kw, kn) at_ 1 v) hb]; rfl, (((Grew.refl w).alloc _).trans hg).trans hg1⟩
              · have hb' : allAt l (ky, kw, kn) at_ 1 1 = false := by simpa using hb
                clear hb
                go_wp2_with fail
                refine (refAllAt_any l (ky, kw, kn) _ _ _ _ _ (.inl rfl) HI.out hl a0 a1 hok hokk (HS.out.grew (((Grew.refl w).alloc _).trans hg))).mono ?_
                rintro e w1 ⟨rfl, hg1⟩
                go_wp2
                go_roundw
                case rel => exact ⟨hg.trans hg1, .inr (.inl ⟨rfl, hb'⟩)⟩
                case measure => simp [intOf]
            · by_cases hb : allAt l (ky, kw, kn) at_ 1 2 = true
              · have HB := Lib.hid hb
                go_wp2_with fail
                refine (refAllAt_any l (ky, kw, kn) _ _ _ _ _ (.inr (.inl rfl)) HI.out hl a0 a1 hok hokk (HS.out.grew (((Grew.refl w).alloc _).trans hg))).mono ?_
                rintro e w1 ⟨rfl, hg1⟩
                go_wp2
                go_ret
                exact ⟨by rw [HF.out, leastOf_2 (fun v => allAt l (ky, kw, kn) at_ 1 v) f1 hb]; rfl, (((Grew.refl w).alloc _).trans hg).trans hg1⟩
              · have hb' : allAt l (ky, kw, kn) at_ 1 2 = false := by simpa using hb
                clear hb
                go_wp2_with fail
                refine (refAllAt_any l (ky, kw, kn) _ _ _ _ _ (.inr (.inl rfl)) HI.out hl a0 a1 hok hokk (HS.out.grew (((Grew.refl w).alloc _).trans hg))).mono ?_
                rintro e w1 ⟨rfl, hg1⟩
                go_wp2
                go_roundw
                case rel => exact ⟨hg.trans hg1, .inr (.inr (.inl ⟨rfl, f1, hb'⟩))⟩
                case measure => simp [intOf]
            · by_cases hb : allAt l (ky, kw, kn) at_ 1 4 = true
              · have HB := Lib.hid hb
                go_wp2_with fail
                refine (refAllAt_any l (ky, kw, kn) _ _ _ _ _ (.inr (.inr (.inl rfl))) HI.out hl a0 a1 hok hokk (HS.out.grew (((Grew.refl w).alloc _).trans hg))).mono ?_
                rintro e w1 ⟨rfl, hg1⟩
                go_wp2
                go_ret
                exact ⟨by rw [HF.out, leastOf_4 (fun v => allAt l (ky, kw, kn) at_ 1 v) f1 f2 hb]; rfl, (((Grew.refl w).alloc _).trans hg).trans hg1⟩
              · have hb' : allAt l (ky, kw, kn) at_ 1 4 = false := by simpa using hb
                clear hb
                go_wp2_with fail
                refine (refAllAt_any l (ky, kw, kn) _ _ _ _ _ (.inr (.inr (.inl rfl))) HI.out hl a0 a1 hok hokk (HS.out.grew (((Grew.refl w).alloc _).trans hg))).mono ?_
                rintro e w1 ⟨rfl, hg1⟩
                go_wp2
                go_roundw
                case rel => exact ⟨hg.trans hg1, .inr (.inr (.inr (.inl ⟨rfl, f1, f2, hb'⟩)))⟩
                case measure => simp [intOf]
            · by_cases hb : allAt l (ky, kw, kn) at_ 1 8 = true
              · have HB := Lib.hid hb
                go_wp2_with fail
                refine (refAllAt_any l (ky, kw, kn) _ _ _ _ _ (.inr (.inr (.inr rfl))) HI.out hl a0 a1 hok hokk (HS.out.grew (((Grew.refl w).alloc _).trans hg))).mono ?_
                rintro e w1 ⟨rfl, hg1⟩
                go_wp2
                go_ret
                exact ⟨by rw [HF.out, leastOf_8 (fun v => allAt l (ky, kw, kn) at_ 1 v) f1 f2 f4 hb]; rfl, (((Grew.refl w).alloc _).trans hg).trans hg1⟩
              · have hb' : allAt l (ky, kw, kn) at_ 1 8 = false := by simpa using hb
                clear hb
                go_wp2_with fail
                refine (refAllAt_any l (ky, kw, kn) _ _ _ _ _ (.inr (.inr (.inr rfl))) HI.out hl a0 a1 hok hokk (HS.out.grew (((Grew.refl w).alloc _).trans hg))).mono ?_
                rintro e w1 ⟨rfl, hg1⟩
                go_wp2
                go_roundw
                case rel => exact ⟨hg.trans hg1, .inr (.inr (.inr (.inr (⟨rfl, by simp [leastOf, f1, f2, f4, hb']⟩))))⟩
                case measure => simp [intOf]
            · have FZ := Lib.hid fz
              clear fz
              go_wp2
              go_ret
              exact ⟨by rw [HF.out, FZ.out]; rfl, ((Grew.refl w).alloc _).trans hg⟩
        · go_enter Try.func16, Try.ntmps16
          go_wp2_with fail
          go_loopw [9] (fun v wr => Grew (w.alloc (.cells #[.int .i64 ky, .int .i64 kw, .int .u64 kn] 24)) wr ∧
            ((v = .int .i64 1) ∨ (v = .int .i64 2 ∧ allAt l (ky, kw, kn) at_ 3 1 = false) ∨ (v = .int .i64 4 ∧ allAt l (ky, kw, kn) at_ 3 1 = false ∧ allAt l (ky, kw, kn) at_ 3 2 = false) ∨
             (v = .int .i64 8 ∧ allAt l (ky, kw, kn) at_ 3 1 = false ∧ allAt l (ky, kw, kn) at_ 3 2 = false ∧ allAt l (ky, kw, kn) at_ 3 4 = false) ∨ (v = .int .i64 16 ∧ leastOf (fun v => allAt l (ky, kw, kn) at_ 3 v) = 0))) (fun v _ => 16 - (intOf v).toNat)
          case atStart => exact ⟨Grew.refl _, .inl rfl⟩
          case round =>
            obtain ⟨hg, hrel⟩ := hrel
            obtain ⟨hc, hr, hss⟩ := hg.rules
            simp only [World.size_alloc] at hc hr hss
            rcases hrel with rfl | ⟨rfl, f1⟩ | ⟨rfl, f1, f2⟩ | ⟨rfl, f1, f2, f4⟩ | ⟨rfl, fz⟩
            · by_cases hb : allAt l (ky, kw, kn) at_ 3 1 = true
              · have HB := Lib.hid hb
                go_wp2_with fail
                refine (refAllAt_any l (ky, kw, kn) _ _ _ _ _ (.inl rfl) HI.out hl a0 a1 hok hokk (HS.out.grew (((Grew.refl w).alloc _).trans hg))).mono ?_
                rintro e w1 ⟨rfl, hg1⟩
                go_wp2
                go_ret
                exact ⟨by rw [HF.out, leastOf_1 (fun v => allAt l (ky, kw, kn) at_ 3 v) hb]; rfl, (((Grew.refl w).alloc _).trans hg).trans hg1⟩
              · have hb' : allAt l (ky, kw, kn) at_ 3 1 = false := by simpa using hb
                clear hb
                go_wp2_with fail
                refine (refAllAt_any l (ky, kw, kn) _ _ _ _ _ (.inl rfl) HI.out hl a0 a1 hok hokk (HS.out.grew (((Grew.refl w).alloc _).trans hg))).mono ?_
                rintro e w1 ⟨rfl, hg1⟩
                go_wp2
                go_roundw
                case rel => exact ⟨hg.trans hg1, .inr (.inl ⟨rfl, hb'⟩)⟩
                case measure => simp [intOf]
            · by_cases hb : allAt l (ky, kw, kn) at_ 3 2 = true
              · have HB := Lib.hid hb
                go_wp2_with fail
                refine (refAllAt_any l (ky, kw, kn) _ _ _ _ _ (.inr (.inl rfl)) HI.out hl a0 a1 hok hokk (HS.out.grew (((Grew.refl w).alloc _).trans hg))).mono ?_
                rintro e w1 ⟨rfl, hg1⟩
                go_wp2
                go_ret
                exact ⟨by rw [HF.out, leastOf_2 (fun v => allAt l (ky, kw, kn) at_ 3 v) f1 hb]; rfl, (((Grew.refl w).alloc _).trans hg).trans hg1⟩
              · have hb' : allAt l (ky, kw, kn) at_ 3 2 = false := by simpa using hb
                clear hb
                go_wp2_with fail
                refine (refAllAt_any l (ky, kw, kn) _ _ _ _ _ (.inr (.inl rfl)) HI.out hl a0 a1 hok hokk (HS.out.grew (((Grew.refl w).alloc _).trans hg))).mono ?_
                rintro e w1 ⟨rfl, hg1⟩
                go_wp2
                go_roundw
                case rel => exact ⟨hg.trans hg1, .inr (.inr (.inl ⟨rfl, f1, hb'⟩))⟩
                case measure => simp [intOf]
            · by_cases hb : allAt l (ky, kw, kn) at_ 3 4 = true
              · have HB := Lib.hid hb
                go_wp2_with fail
                refine (refAllAt_any l (ky, kw, kn) _ _ _ _ _ (.inr (.inr (.inl rfl))) HI.out hl a0 a1 hok hokk (HS.out.grew (((Grew.refl w).alloc _).trans hg))).mono ?_
                rintro e w1 ⟨rfl, hg1⟩
                go_wp2
                go_ret
                exact ⟨by rw [HF.out, leastOf_4 (fun v => allAt l (ky, kw, kn) at_ 3 v) f1 f2 hb]; rfl, (((Grew.refl w).alloc _).trans hg).trans hg1⟩
              · have hb' : allAt l (ky, kw, kn) at_ 3 4 = false := by simpa using hb
                clear hb
                go_wp2_with fail
                refine (refAllAt_any l (ky, kw, kn) _ _ _ _ _ (.inr (.inr (.inl rfl))) HI.out hl a0 a1 hok hokk (HS.out.grew (((Grew.refl w).alloc _).trans hg))).mono ?_
                rintro e w1 ⟨rfl, hg1⟩
                go_wp2
                go_roundw
                case rel => exact ⟨hg.trans hg1, .inr (.inr (.inr (.inl ⟨rfl, f1, f2, hb'⟩)))⟩
                case measure => simp [intOf]
            · by_cases hb : allAt l (ky, kw, kn) at_ 3 8 = true
              · have HB := Lib.hid hb
                go_wp2_with fail
                refine (refAllAt_any l (ky, kw, kn) _ _ _ _ _ (.inr (.inr (.inr rfl))) HI.out hl a0 a1 hok hokk (HS.out.grew (((Grew.refl w).alloc _).trans hg))).mono ?_
                rintro e w1 ⟨rfl, hg1⟩
                go_wp2
                go_ret
                exact ⟨by rw [HF.out, leastOf_8 (fun v => allAt l (ky, kw, kn) at_ 3 v) f1 f2 f4 hb]; rfl, (((Grew.refl w).alloc _).trans hg).trans hg1⟩
              · have hb' : allAt l (ky, kw, kn) at_ 3 8 = false := by simpa using hb
                clear hb
                go_wp2_with fail
                refine (refAllAt_any l (ky, kw, kn) _ _ _ _ _ (.inr (.inr (.inr rfl))) HI.out hl a0 a1 hok hokk (HS.out.grew (((Grew.refl w).alloc _).trans hg))).mono ?_
                rintro e w1 ⟨rfl, hg1⟩
                go_wp2
                go_roundw
                case rel => exact ⟨hg.trans hg1, .inr (.inr (.inr (.inr (⟨rfl, by simp [leastOf, f1, f2, f4, hb']⟩))))⟩
                case measure => simp [intOf]
            · have FZ := Lib.hid fz
              clear fz
              go_wp2
              go_ret
              exact ⟨by rw [HF.out, FZ.out]; rfl, ((Grew.refl w).alloc _).trans hg⟩
      · have hf : allF l (ky, kw, kn) at_ ahead = 0 := by unfold allF; rw [if_neg (fun h => hl h.2.2)]
        have HF := Lib.hid hf
        clear hf
        rcases hi with rfl | rfl | rfl
        all_goals
          go_enter Try.func16, Try.ntmps16
          go_wp2
          go_ret
          exact ⟨by rw [HF.out]; rfl, (Grew.refl w).alloc _⟩
    · have hf : allF l (ky, kw, kn) at_ ahead = 0 := by unfold allF; rw [if_neg (fun h => hi h.2.1)]
      have HF := Lib.hid hf
      have n0 : (ahead != 0) = true := by rw [bne_iff_ne]; intro h; exact hi (.inl h)
      have n1 : (ahead != 1) = true := by rw [bne_iff_ne]; intro h; exact hi (.inr (.inl h))
      have n3 : (ahead != 3) = true := by rw [bne_iff_ne]; intro h; exact hi (.inr (.inr h))
      clear hf hi
      go_enter Try.func16, Try.ntmps16
      go_wp2
      go_ret
      exact ⟨by rw [HF.out]; rfl, (Grew.refl w).alloc _⟩
  · have hf : allF l (ky, kw, kn) at_ ahead = 0 := by unfold allF; rw [if_neg (fun h => ha h.1)]
    have HF := Lib.hid hf
    clear hf
    by_cases a0 : at_ < 0
    · go_enter Try.func16, Try.ntmps16
      go_wp2
      go_ret
      exact ⟨by rw [HF.out]; rfl, (Grew.refl w).alloc _⟩
    · have a1 : 1073741824 < at_ := by omega
      clear ha
      go_enter Try.func16, Try.ntmps16
      go_wp2
      go_ret
      exact ⟨by rw [HF.out]; rfl, (Grew.refl w).alloc _⟩

end Go.Proofs.Ytkabfefphdgppaa
