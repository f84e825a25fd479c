/-
  Walks of fit.All and of the reference's all and All: both return the plain function allF. Conditions: the values are a list in memory, at most as long as a slice may be; each offset is a uint64. The world only grows.
-/
import Derived.Test.YtaoflhddcbmacaaFitOne
namespace Go.Proofs.Ytaoflhddcbmacaa.Ft
open Go Go.RowKit

abbrev V3 := Int × Int × Int
def okV (x : V3) : Prop := 0 ≤ x.2.2 ∧ x.2.2 ≤ 18446744073709551615
def fitsV (x : V3) (at_ i v : Int) : Bool := fitsF x.1 x.2.1 x.2.2 at_ i v
abbrev vV (x : V3) : Value := valueV x.1 x.2.1 x.2.2

/-- The slice value v reads as the list l of values in w. -/
def ValsAt (w : World) (v : Value) (l : List V3) : Prop :=
  ∃ a0 cap, v = .slice a0 l.length cap ∧ ∀ i x, l[i]? = some x → ∃ b off, a0 = some ⟨b, off, none⟩ ∧
    w.cell? ⟨b, off + i * 3, none⟩ = some (.int .i64 x.1) ∧ w.cell? ⟨b, off + i * 3 + 1, none⟩ = some (.int .i64 x.2.1) ∧ w.cell? ⟨b, off + i * 3 + 2, none⟩ = some (.int .u64 x.2.2)

theorem ValsAt.grew {w w' : World} {v : Value} {l : List V3} (h : ValsAt w v l) (hg : Grew w w') : ValsAt w' v l := by
  obtain ⟨a0, cap, h1, h3⟩ := h
  exact ⟨a0, cap, h1, fun i x hx => let ⟨b, off, e, p, q, r⟩ := h3 i x hx; ⟨b, off, e, hg.cell p, hg.cell q, hg.cell r⟩⟩

def fitsL : List V3 → Int → Int → Int → Bool
  | [], _, _, _ => true
  | x :: r, at_, i, v => fitsV x at_ i v && fitsL r at_ (i + 1) v
def headF (n : Nat) (k : V3) (at_ ahead v : Int) : Bool := (decide (ahead ≤ 0) || belowW n v) && (!(ahead == 3) || fitsV k at_ 0 v)
def allAt (l : List V3) (k : V3) (at_ ahead v : Int) : Bool := headF l.length k at_ ahead v && fitsL l at_ ahead v

theorem fitsL_drop (l : List V3) (at_ i v : Int) (k : Nat) (x : V3) (h : l[k]? = some x) : fitsL (l.drop k) at_ (i + k) v = (fitsV x at_ (i + k) v && fitsL (l.drop (k + 1)) at_ (i + (k + 1 : Nat)) v) := by
  have hlt : k < l.length := (List.getElem?_eq_some_iff.1 h).1
  rw [List.drop_eq_getElem_cons hlt]
  have : l[k] = x := (List.getElem?_eq_some_iff.1 h).2
  rw [this]
  show (fitsV x at_ (i + k) v && fitsL (l.drop (k + 1)) at_ (i + k + 1) v) = _
  rw [show i + (k : Int) + 1 = i + ((k + 1 : Nat) : Int) by omega]

/-- The three starts of a vector. -/
def isA (a : Int) : Prop := a = 0 ∨ a = 1 ∨ a = 3

set_option maxRecDepth 100000 in
set_option maxHeartbeats 4000000 in
theorem all1_any (l : List V3) (k1 : V3) (at_ ahead v : Int) (sv : Value) (pa pl pk pt : Nat) (w : World) (hv : isW v) (ha : isA ahead) (hl : l.length ≤ 1048576) (a0 : 0 ≤ at_) (a1 : at_ ≤ 1073741824)
    (hok : ∀ x ∈ l, okV x) (hokk : okV k1) (hs : ValsAt w sv l)
    (h1 : w.cell? ⟨pa, 0, none⟩ = some (.int .i64 ahead)) (h2 : w.cell? ⟨pl, 0, none⟩ = some sv) (h4 : w.cell? ⟨pt, 0, none⟩ = some (.int .i64 at_))
    (q1 : w.cell? ⟨pk, 0, none⟩ = some (.int .i64 k1.1)) (q2 : w.cell? ⟨pk, 1, none⟩ = some (.int .i64 k1.2.1)) (q3 : w.cell? ⟨pk, 2, none⟩ = some (.int .u64 k1.2.2)) :
    Calls Try.prog 47 #[.int .i64 v, .pointer (some ⟨pa, 0, none⟩), .pointer (some ⟨pl, 0, none⟩), .pointer (some ⟨pk, 0, none⟩), .pointer (some ⟨pt, 0, none⟩)] w fun e w' => e = .returned (.bool (allAt l k1 at_ ahead v)) ∧ Grew w w' := by
  obtain ⟨sa, cap, rfl, hc⟩ := hs
  obtain ⟨ky, kw, kn⟩ := k1
  have hv0 : 1 ≤ v ∧ v ≤ 8 := by rcases hv with rfl | rfl | rfl | rfl <;> omega
  rcases ha with rfl | rfl | rfl
  · have hh : headF l.length (ky, kw, kn) at_ 0 v = true := by simp [headF]
    go_enter Try.func47, Try.ntmps47
    go_wp2_with fail
    have hh' := Lib.hid hh
    clear hh
    go_loopw [7, 8, 32] (fun _ _ i wr => Grew w wr ∧ ∃ k : Nat, k ≤ l.length ∧ i = .int .i64 k ∧ Hid (fitsL l at_ 0 v = fitsL (l.drop k) at_ (0 + k) v)) (fun _ _ i _ => l.length - (intOf i).toNat)
    case atStart => exact ⟨Grew.refl _, 0, by omega, rfl, by show _ = _; simp⟩
    case round =>
      obtain ⟨hg, k, hk, rfl, hrest⟩ := hrel
      by_cases hlt : k < l.length
      · obtain ⟨x, hx⟩ : ∃ x, l[k]? = some x := ⟨_, List.getElem?_eq_getElem hlt⟩
        obtain ⟨b, off, rfl, c1, c2, c3⟩ := hc k x hx
        have ho := hok x (List.mem_of_getElem? hx)
        have d1 := hg.cell c1
        have d2 := hg.cell c2
        have d3 := hg.cell c3
        have e1 := hg.cell h1
        have e4 := hg.cell h4
        have b1 := lt_of_cell e1
        have b4 := lt_of_cell e4
        dsimp only at b1 b4
        have hd := Lib.hid (fitsL_drop l at_ 0 v k x hx)
        clear c1 c2 c3 hc
        obtain ⟨x1, x2, x3⟩ := x
        by_cases hf : fitsF x1 x2 x3 at_ (↑k) v = true
        · have HX := Lib.hid hf
          go_wp2_with fail
          refine (fits_any _ _ _ _ _ _ _ hv ho.1 ho.2 a0 a1 (by omega) (by omega)).mono ?_
          rintro e w1 ⟨rfl, hg1⟩
          go_wp2
          go_roundw
          case rel => exact ⟨(hg.trans ((Grew.refl _).alloc _)).trans hg1, k + 1, by omega, by go_num, by show _ = _; rw [hrest.out, hd.out]; unfold fitsV; rw [Int.zero_add]; rw [HX.out]; rfl⟩
          case measure => simp [intOf]; omega
        · have hf' : fitsF x1 x2 x3 at_ (↑k) v = false := by simpa using hf
          have HX := Lib.hid hf'
          clear hf
          go_wp2_with fail
          refine (fits_any _ _ _ _ _ _ _ hv ho.1 ho.2 a0 a1 (by omega) (by omega)).mono ?_
          rintro e w1 ⟨rfl, hg1⟩
          go_wp2
          go_ret
          exact ⟨by unfold allAt; rw [hh'.out, hrest.out, hd.out]; unfold fitsV; rw [Int.zero_add]; rw [HX.out]; rfl, (hg.trans ((Grew.refl _).alloc _)).trans hg1⟩
      · obtain rfl : k = l.length := by omega
        go_wp2
        go_ret
        exact ⟨by unfold allAt; rw [hh'.out, hrest.out, List.drop_length]; rfl, hg⟩
  · by_cases hb : belowW l.length v = true
    · have hh : headF l.length (ky, kw, kn) at_ 1 v = true := by simp [headF, hb]
      have hb2 : decide (v < widthOf l.length) = false := by
        have := widthOf_le (l.length : Int) v hv (by omega) (by omega)
        rw [hb, Int.toNat_natCast] at this
        simpa using this
      clear hb
      go_enter Try.func47, Try.ntmps47
      go_wp2_with fail
      refine (widthOf_any _ _ (by omega) (by omega)).mono ?_
      rw [Int.toNat_natCast]
      rintro e w2 ⟨rfl, rfl⟩
      go_wp2_with fail
      have hh' := Lib.hid hh
      clear hh
      go_loopw [7, 8, 32] (fun _ _ i wr => Grew w wr ∧ ∃ k : Nat, k ≤ l.length ∧ i = .int .i64 k ∧ Hid (fitsL l at_ 1 v = fitsL (l.drop k) at_ (1 + k) v)) (fun _ _ i _ => l.length - (intOf i).toNat)
      case atStart => exact ⟨Grew.refl _, 0, by omega, rfl, by show _ = _; simp⟩
      case round =>
        obtain ⟨hg, k, hk, rfl, hrest⟩ := hrel
        by_cases hlt : k < l.length
        · obtain ⟨x, hx⟩ : ∃ x, l[k]? = some x := ⟨_, List.getElem?_eq_getElem hlt⟩
          obtain ⟨b, off, rfl, c1, c2, c3⟩ := hc k x hx
          have ho := hok x (List.mem_of_getElem? hx)
          have d1 := hg.cell c1
          have d2 := hg.cell c2
          have d3 := hg.cell c3
          have e1 := hg.cell h1
          have e4 := hg.cell h4
          have b1 := lt_of_cell e1
          have b4 := lt_of_cell e4
          dsimp only at b1 b4
          have hd := Lib.hid (fitsL_drop l at_ 1 v k x hx)
          clear c1 c2 c3 hc
          obtain ⟨x1, x2, x3⟩ := x
          by_cases hf : fitsF x1 x2 x3 at_ (1 + ↑k) v = true
          · have HX := Lib.hid hf
            go_wp2_with fail
            refine (fits_any _ _ _ _ _ _ _ hv ho.1 ho.2 a0 a1 (by omega) (by omega)).mono ?_
            rintro e w1 ⟨rfl, hg1⟩
            go_wp2
            go_roundw
            case rel => exact ⟨(hg.trans ((Grew.refl _).alloc _)).trans hg1, k + 1, by omega, by go_num, by show _ = _; rw [hrest.out, hd.out]; unfold fitsV; rw [HX.out]; rfl⟩
            case measure => simp [intOf]; omega
          · have hf' : fitsF x1 x2 x3 at_ (1 + ↑k) v = false := by simpa using hf
            have HX := Lib.hid hf'
            clear hf
            go_wp2_with fail
            refine (fits_any _ _ _ _ _ _ _ hv ho.1 ho.2 a0 a1 (by omega) (by omega)).mono ?_
            rintro e w1 ⟨rfl, hg1⟩
            go_wp2
            go_ret
            exact ⟨by unfold allAt; rw [hh'.out, hrest.out, hd.out]; unfold fitsV; rw [HX.out]; rfl, (hg.trans ((Grew.refl _).alloc _)).trans hg1⟩
        · obtain rfl : k = l.length := by omega
          go_wp2
          go_ret
          exact ⟨by unfold allAt; rw [hh'.out, hrest.out, List.drop_length]; rfl, hg⟩
    · have hh : headF l.length (ky, kw, kn) at_ 1 v = false := by simp [headF, hb]
      have hb2 : decide (v < widthOf l.length) = true := by
        have := widthOf_le (l.length : Int) v hv (by omega) (by omega)
        have hb' : belowW l.length v = false := by simpa using hb
        rw [hb', Int.toNat_natCast] at this
        simpa using this
      have hh' := Lib.hid hh
      clear hb hh
      go_enter Try.func47, Try.ntmps47
      go_wp2_with fail
      refine (widthOf_any _ _ (by omega) (by omega)).mono ?_
      rw [Int.toNat_natCast]
      rintro e w2 ⟨rfl, rfl⟩
      go_wp2
      go_ret
      exact ⟨by unfold allAt; rw [hh'.out]; rfl, Grew.refl _⟩
  · by_cases hb : belowW l.length v = true
    · have hb2 : decide (v < widthOf l.length) = false := by
        have := widthOf_le (l.length : Int) v hv (by omega) (by omega)
        rw [hb, Int.toNat_natCast] at this
        simpa using this
      by_cases hkf : fitsF ky kw kn at_ 0 v = true
      · have hh : headF l.length (ky, kw, kn) at_ 3 v = true := by simp [headF, hb, fitsV, hkf]
        clear hb
        go_enter Try.func47, Try.ntmps47
        go_wp2_with fail
        refine (widthOf_any _ _ (by omega) (by omega)).mono ?_
        rw [Int.toNat_natCast]
        rintro e w2 ⟨rfl, rfl⟩
        go_wp2_with fail
        refine (fits_any _ _ _ _ _ _ _ hv hokk.1 hokk.2 a0 a1 (by omega) (by omega)).mono ?_
        rintro e w2 ⟨rfl, hg0⟩
        have h1 := hg0.cell h1
        have h2 := hg0.cell h2
        have h4 := hg0.cell h4
        replace hc : ∀ i x, l[i]? = some x → ∃ b off, sa = some ⟨b, off, none⟩ ∧ w2.cell? ⟨b, off + i * 3, none⟩ = some (.int .i64 x.1) ∧ w2.cell? ⟨b, off + i * 3 + 1, none⟩ = some (.int .i64 x.2.1) ∧ w2.cell? ⟨b, off + i * 3 + 2, none⟩ = some (.int .u64 x.2.2) :=
          fun i x hx => let ⟨b, off, e, p, q, r⟩ := hc i x hx; ⟨b, off, e, hg0.cell p, hg0.cell q, hg0.cell r⟩
        go_wp2_with fail
        have hh' := Lib.hid hh
        clear hh
        go_loopw [7, 8, 32] (fun _ _ i wr => Grew w2 wr ∧ ∃ k : Nat, k ≤ l.length ∧ i = .int .i64 k ∧ Hid (fitsL l at_ 3 v = fitsL (l.drop k) at_ (3 + k) v)) (fun _ _ i _ => l.length - (intOf i).toNat)
        case atStart => exact ⟨Grew.refl _, 0, by omega, rfl, by show _ = _; simp⟩
        case round =>
          obtain ⟨hg, k, hk, rfl, hrest⟩ := hrel
          by_cases hlt : k < l.length
          · obtain ⟨x, hx⟩ : ∃ x, l[k]? = some x := ⟨_, List.getElem?_eq_getElem hlt⟩
            obtain ⟨b, off, rfl, c1, c2, c3⟩ := hc k x hx
            have ho := hok x (List.mem_of_getElem? hx)
            have d1 := hg.cell c1
            have d2 := hg.cell c2
            have d3 := hg.cell c3
            have e1 := hg.cell h1
            have e4 := hg.cell h4
            have b1 := lt_of_cell e1
            have b4 := lt_of_cell e4
            dsimp only at b1 b4
            have hd := Lib.hid (fitsL_drop l at_ 3 v k x hx)
            clear c1 c2 c3 hc
            obtain ⟨x1, x2, x3⟩ := x
            by_cases hf : fitsF x1 x2 x3 at_ (3 + ↑k) v = true
            · have HX := Lib.hid hf
              go_wp2_with fail
              refine (fits_any _ _ _ _ _ _ _ hv ho.1 ho.2 a0 a1 (by omega) (by omega)).mono ?_
              rintro e w1 ⟨rfl, hg1⟩
              go_wp2
              go_roundw
              case rel => exact ⟨(hg.trans ((Grew.refl _).alloc _)).trans hg1, k + 1, by omega, by go_num, by show _ = _; rw [hrest.out, hd.out]; unfold fitsV; rw [HX.out]; rfl⟩
              case measure => simp [intOf]; omega
            · have hf' : fitsF x1 x2 x3 at_ (3 + ↑k) v = false := by simpa using hf
              have HX := Lib.hid hf'
              clear hf
              go_wp2_with fail
              refine (fits_any _ _ _ _ _ _ _ hv ho.1 ho.2 a0 a1 (by omega) (by omega)).mono ?_
              rintro e w1 ⟨rfl, hg1⟩
              go_wp2
              go_ret
              exact ⟨by unfold allAt; rw [hh'.out, hrest.out, hd.out]; unfold fitsV; rw [HX.out]; rfl, hg0.trans ((hg.trans ((Grew.refl _).alloc _)).trans hg1)⟩
          · obtain rfl : k = l.length := by omega
            go_wp2
            go_ret
            exact ⟨by unfold allAt; rw [hh'.out, hrest.out, List.drop_length]; rfl, hg0.trans hg⟩
      · have hkf' : fitsF ky kw kn at_ 0 v = false := by simpa using hkf
        have hh : headF l.length (ky, kw, kn) at_ 3 v = false := by simp [headF, hb, fitsV, hkf']
        have hh' := Lib.hid hh
        clear hb hkf hh
        go_enter Try.func47, Try.ntmps47
        go_wp2_with fail
        refine (widthOf_any _ _ (by omega) (by omega)).mono ?_
        rw [Int.toNat_natCast]
        rintro e w2 ⟨rfl, rfl⟩
        go_wp2_with fail
        refine (fits_any _ _ _ _ _ _ _ hv hokk.1 hokk.2 a0 a1 (by omega) (by omega)).mono ?_
        rintro e w2 ⟨rfl, hg0⟩
        go_wp2
        go_ret
        exact ⟨by unfold allAt; rw [hh'.out]; rfl, hg0⟩
    · have hh : headF l.length (ky, kw, kn) at_ 3 v = false := by simp [headF, hb]
      have hb2 : decide (v < widthOf l.length) = true := by
        have := widthOf_le (l.length : Int) v hv (by omega) (by omega)
        have hb' : belowW l.length v = false := by simpa using hb
        rw [hb', Int.toNat_natCast] at this
        simpa using this
      have hh' := Lib.hid hh
      clear hb hh
      go_enter Try.func47, Try.ntmps47
      go_wp2_with fail
      refine (widthOf_any _ _ (by omega) (by omega)).mono ?_
      rw [Int.toNat_natCast]
      rintro e w2 ⟨rfl, rfl⟩
      go_wp2
      go_ret
      exact ⟨by unfold allAt; rw [hh'.out]; rfl, Grew.refl _⟩

end Go.Proofs.Ytaoflhddcbmacaa.Ft
