/-
  VecLeast: at half of the width a number, the length or an offset does not fit. Conditions: none beyond the statement's own.
-/
import Derived.Test.YtaoflhddcbmacaaVecOpen
import Derived.Test.YtaoflhddcbmacaaVecNear
import Derived.Deep.QuietTactic
import Derived.BigQuiet
namespace Go.Proofs.Ytaoflhddcbmacaa
open Go Go.ChangeShapes Go.WideShapes Go.ChangeAt Go.RowKit Go.Joins Go.Deep
open Go.Proofs.Ytaoflhddcbmacaa.Ft (V3 vV okV ValsAt inlineB legalB packF codeF typedF allF)
set_option linter.unusedVariables false
set_option linter.unusedSimpArgs false

def tightTo (h bg P : Int) (L : List V3) (k : Nat) (tb : Bool) : Prop := tb = true ↔ (P ≤ L.length ∨ ∃ j : Nat, j < k ∧ ∃ v, L[j]? = some v ∧ tightAt h bg j v)
theorem tightTo.step {h bg P : Int} {L : List V3} {k : Nat} {tb : Bool} {v : V3} (hv : L[k]? = some v) (nb : Bool) (hnb : nb = true ↔ tightAt h bg k v) (ht : tightTo h bg P L k tb) : tightTo h bg P L (k + 1) (tb || nb) := by
  unfold tightTo at *
  rw [Bool.or_eq_true, ht, hnb]
  constructor
  · rintro ((h | ⟨j, h1, u, h2, h3⟩) | h)
    · exact .inl h
    · exact .inr ⟨j, by omega, u, h2, h3⟩
    · exact .inr ⟨k, by omega, v, hv, h⟩
  · rintro (h | ⟨j, h1, u, h2, h3⟩)
    · exact .inl (.inl h)
    · by_cases e : j = k
      · subst e
        rw [hv] at h2
        cases h2
        exact .inr h3
      · exact .inl (.inr ⟨j, by omega, u, h2, h3⟩)
theorem tight_far {h bg : Int} {k : Nat} {ty wd vn : Int} (hi : inlineB ty = false) (P : Int) (hP : P = 2 ^ (8 * h.toNat)) (E : Int) (hE : E = bg + (k + 1) * h - vn) : (decide (P ≤ E) = true ↔ tightAt h bg k (ty, wd, vn)) := by
  rw [decide_eq_true_eq, hP, hE]
  unfold tightAt
  exact ⟨fun h => .inr ⟨hi, h⟩, fun h => by
    rcases h with h | h
    · rw [show inlineB ty = true from h.1] at hi; cases hi
    · exact h.2⟩
theorem tightTo.zero (h bg P : Int) (L : List V3) : tightTo h bg P L 0 (decide (P ≤ (L.length : Int))) := by
  unfold tightTo
  rw [decide_eq_true_eq]
  exact ⟨fun h => .inl h, fun h => by
    rcases h with h | ⟨j, h, _⟩
    · exact h
    · omega⟩
set_option maxRecDepth 100000 in
set_option maxHeartbeats 4000000 in
theorem vecLeast_any (a : Int) (lv : Value) (l : List (Int × Int)) (W : World) (hp : PairsAt W lv l) (hlen : l.length ≤ 9223372036854775807) :
    Calls Try.prog 3 #[.int .i64 a, lv] W fun r w' => r = .returned (.bool true) ∧ Below W.heap.size W w' := by
  have HP := Lib.hid hp
  obtain ⟨la, lc, rfl, hcell⟩ := hp
  clear hcell
  go_enter Try.func3, Try.ntmps3
  go_wp2_with fail
  refine (bringL_any a 70000 _ (by omega) (by omega)).mono ?_
  rintro r w1 ⟨rfl, rfl⟩
  obtain ⟨m, hm⟩ : ∃ m : Nat, a % 70000 = m := ⟨(a % 70000).toNat, by omega⟩
  rw [hm]
  have hm2 : m < 70000 := by omega
  clear hm
  go_wp2_with fail
  obtain ⟨n, hn⟩ : ∃ n : Nat, 1 + (m : Int) = n := ⟨m + 1, by omega⟩
  rw [hn]
  have hn1 : 1 ≤ n := by omega
  have hn2 : n ≤ 70000 := by omega
  clear hn hm2
  refine (values_any n _ l _ HP.out (by omega) (by omega) hlen).mono ?_
  rintro r w2 ⟨vv, rfl, hown, hg⟩
  have HO := Lib.hid hown
  have HG2 := Lib.hid hg
  obtain ⟨va, vc, rfl, hvc⟩ := own_form hown
  have HNR : Hid (∀ v ∈ valsF l n, Near n v) := near_vals l n (by omega) (by omega)
  have hl3 : (valsF l n).length ≤ 300 := by rw [valsF_length]; omega
  generalize valsF l n = L at *
  clear hown hg hvc
  go_wp2_with fail
  refine (filled_any 1048576 n _ (by omega)).mono ?_
  rintro r w3 ⟨rfl, hl⟩
  rw [roomOf_big, filled_big n (by omega)] at hl
  have HL := Lib.hid hl
  clear hl
  go_wp2_with fail
  obtain ⟨o, hb, hbel, h3, h4⟩ := HL.out
  refine (put_un (zeros n, 0) _ L hb hbel.size h3 h4 ((HO.out.vals).grew hbel) (by omega) (okV_vals HNR.out) ?_ rfl).mono ?_
  · intro ad n' c' e
    have hlt := own_lt HO.out e
    exact ⟨Nat.lt_of_lt_of_le hlt hbel.size, fun hq => by have := hb.ge _ hq; omega⟩
  rintro r w4 ⟨rfl, ht⟩
  have hzl : (zeros n).length = n := length_zeros n
  have HGR : Hid (Grew w2 w4) := by
    obtain ⟨o', _, _, hm⟩ := ht
    exact Below.trans hbel (hm.below hbel.size (fun k hk => hb.ge k hk))
  clear ht hb hbel h3 h4 HL
  obtain ⟨x, hx⟩ : ∃ x, allF L (0, 0, 0) n 1 = x := ⟨_, rfl⟩
  have hx1 : allF L (0, 0, 0) (zeros n).length (if true = true then 1 else 0) = x := by rw [hzl, if_pos rfl]; exact hx
  obtain ⟨_, _, hw, _⟩ := allF_near (n := n) (ahead := 1) (.inr rfl) (by omega) (by omega) (by omega) HNR.out
  rw [hx] at hw
  have hq := putF_ok (most := 1048576) (T := legalE) (len := true) (tagged := true) (kind := 10) (b := zeros n) (l := L) (x := x) (legal_vals HNR.out) (by omega) (by omega) (by rw [hzl]; exact HNR.out) hx1 (by have := lenOf_le hw true true (zeros n) L; omega)
  rw [hq]
  have hpad := padN_lt (l := zeros n) hw
  have hxp := isW_pos hw
  obtain ⟨p, hpp⟩ : ∃ p : Int, ((zeros n).length : Int) + padN (zeros n) x + (if true = true then x else 0) = p := ⟨_, rfl⟩
  rw [hpp]
  have hp0 : 0 ≤ p := by rw [← hpp, hzl, if_pos rfl]; omega
  have hp1 : p ≤ 1048576 := by rw [← hpp, hzl, if_pos rfl]; omega
  rw [show putV ((10, x, p), 0) = .tuple #[.agg #[.int .i64 10, .int .i64 x, .int .u64 p], .int .i64 0] from rfl]
  have HTI : Hid (∀ h : Int, x = 2 * h → 1 ≤ h → (2 : Int) ^ (8 * h.toNat) ≤ L.length ∨ ∃ (i : Nat) (v : V3), L[i]? = some v ∧ tightAt h ((n + h - 1) / h * h) i v) := fun h e1 e2 => half_tight (by omega) (by omega) (by omega) HNR.out hx e1 e2
  have HV4 : Hid (ValsAt w4 (.slice va L.length vc) L) := (HO.out.vals).grew HGR.out
  have HGW : Hid (Grew w1 w4) := HG2.out.trans HGR.out
  have HW := Lib.hid hw
  clear hq hpp hpad hx hx1 hzl HO HG2 HGR
  rcases isW_cases hw with rfl | rfl | rfl | rfl
  · clear hw hxp HTI HV4 HNR
    go_wp2_with fail
    refine (works17_any _).mono ?_
    rintro r w5 ⟨rfl, hg5⟩
    have HG5 : Hid (Grew w1 w5) := HGW.out.trans (((Grew.refl w4).alloc _).trans hg5)
    clear hg5
    go_wp2
    go_ret
    exact ⟨rfl, HG5.out⟩
  · clear hw hxp
    have HT2 := Lib.hid (HTI.out 1 (by decide) (by decide))
    clear HTI
    rw [show ((n : Int) + 1 - 1) / 1 * 1 = (n : Int) by omega] at HT2
    go_wp2_with fail
    go_loopw [11, 12] (fun t i wr => ∃ k : Nat, k ≤ L.length ∧ i = .int .i64 k ∧ ∃ tb : Bool, t = .bool tb ∧ Hid (tightTo 1 ((n : Int)) 256 L k tb ∧ Grew w4 wr)) (fun _ i _ => L.length - (intOf i).toNat)
    case atStart =>
      refine ⟨0, Nat.zero_le _, rfl, _, rfl, ?_⟩
      show _ ∧ _
      exact ⟨tightTo.zero _ _ _ _, (Grew.refl w4).alloc _⟩
    case round =>
      obtain ⟨k, hk, rfl, tb, rfl, HK⟩ := hrel
      by_cases hlt : k < L.length
      · obtain ⟨v, hv⟩ : ∃ v, L[k]? = some v := ⟨_, List.getElem?_eq_getElem hlt⟩
        have HS := Lib.hid (fun nb hnb => HK.out.1.step hv nb hnb)
        have hnr := HNR.out v (List.mem_of_getElem? hv)
        have HI : Hid (inlineB v.1 = false → v.2.2 ≤ n) := hnr.2.2.2
        obtain ⟨u0, u1⟩ := hnr.2.1
        obtain ⟨va', vc', ev, hc⟩ := HV4.out
        cases ev
        obtain ⟨b, off, rfl, d0, d1, d2⟩ := hc k v hv
        replace d0 := HK.out.2.cell d0
        replace d1 := HK.out.2.cell d1
        replace d2 := HK.out.2.cell d2
        obtain ⟨ty, wd, vn⟩ := v
        simp only at d0 d1 d2 u0 u1 HI
        clear hc hnr hv
        go_wp2_with fail
        refine (Ft.inline_any ty _).mono ?_
        rintro r w5 ⟨rfl, hg5⟩
        replace d0 := hg5.cell d0
        replace d1 := hg5.cell d1
        replace d2 := hg5.cell d2
        have HG5 := Lib.hid (HK.out.2.trans hg5)
        clear hg5 d0
        cases hi : inlineB ty with
        | true =>
          cases tb with
          | true =>
            go_wp2
            go_roundw
            case rel =>
              refine ⟨k + 1, by omega, by go_num, _, rfl, ?_⟩
              show _ ∧ _
              exact ⟨HS.out (decide (1 < wd)) (by rw [decide_eq_true_eq]; exact ⟨fun h => .inl ⟨hi, h⟩, fun h => by rcases h with h | h; exact h.2; rw [show inlineB ty = false from h.1] at hi; cases hi⟩), HG5.out⟩
            case measure => simp [intOf]; omega
          | false =>
            go_wp2
            go_roundw
            case rel =>
              refine ⟨k + 1, by omega, by go_num, _, rfl, ?_⟩
              show _ ∧ _
              exact ⟨HS.out (decide (1 < wd)) (by rw [decide_eq_true_eq]; exact ⟨fun h => .inl ⟨hi, h⟩, fun h => by rcases h with h | h; exact h.2; rw [show inlineB ty = false from h.1] at hi; cases hi⟩), HG5.out⟩
            case measure => simp [intOf]; omega
        | false =>
          have hvn := HI.out hi
          have hlt2 : (k : Int) < L.length := by omega
          cases tb with
          | true =>
            go_wp2_with fail
            go_quiet (fail)
            go_wp2
            go_roundw
            case rel =>
              refine ⟨k + 1, by omega, by go_num, _, rfl, ?_⟩
              show _ ∧ _
              exact ⟨HS.out (decide ((256 : Int) ≤ (n : Int) + ((k : Int) + 1) * 1 - vn)) (tight_far hi _ (by decide) _ (by omega)), HG5.out.drewN _⟩
            case measure => simp [intOf]; omega
          | false =>
            go_wp2_with fail
            go_quiet (fail)
            go_wp2
            go_roundw
            case rel =>
              refine ⟨k + 1, by omega, by go_num, _, rfl, ?_⟩
              show _ ∧ _
              exact ⟨HS.out (decide ((256 : Int) ≤ (n : Int) + ((k : Int) + 1) - vn)) (tight_far hi _ (by decide) _ (by omega)), HG5.out.drewN _⟩
            case measure => simp [intOf]; omega
      · have ek : k = L.length := by omega
        subst ek
        have htb : tb = true := HK.out.1.2 (HT2.out.imp (fun h => h) (fun ⟨i, v, h1, h2⟩ => ⟨i, (List.getElem?_eq_some_iff.1 h1).1, v, h1, h2⟩))
        subst htb
        have HG6 : Hid (Grew w1 wr) := HGW.out.trans HK.out.2
        clear HK HT2
        go_wp2_with fail
        refine (works17_any _).mono ?_
        rintro r w5 ⟨rfl, hg5⟩
        have HG5 : Hid (Grew w1 w5) := HG6.out.trans hg5
        clear hg5
        go_wp2
        go_ret
        exact ⟨rfl, HG5.out⟩
  · clear hw hxp
    have HT2 := Lib.hid (HTI.out 2 (by decide) (by decide))
    clear HTI
    go_wp2_with fail
    go_loopw [11, 12] (fun t i wr => ∃ k : Nat, k ≤ L.length ∧ i = .int .i64 k ∧ ∃ tb : Bool, t = .bool tb ∧ Hid (tightTo 2 (((n : Int) + 2 - 1) / 2 * 2) 65536 L k tb ∧ Grew w4 wr)) (fun _ i _ => L.length - (intOf i).toNat)
    case atStart =>
      refine ⟨0, Nat.zero_le _, rfl, _, rfl, ?_⟩
      show _ ∧ _
      exact ⟨tightTo.zero _ _ _ _, (Grew.refl w4).alloc _⟩
    case round =>
      obtain ⟨k, hk, rfl, tb, rfl, HK⟩ := hrel
      by_cases hlt : k < L.length
      · obtain ⟨v, hv⟩ : ∃ v, L[k]? = some v := ⟨_, List.getElem?_eq_getElem hlt⟩
        have HS := Lib.hid (fun nb hnb => HK.out.1.step hv nb hnb)
        have hnr := HNR.out v (List.mem_of_getElem? hv)
        have HI : Hid (inlineB v.1 = false → v.2.2 ≤ n) := hnr.2.2.2
        obtain ⟨u0, u1⟩ := hnr.2.1
        obtain ⟨va', vc', ev, hc⟩ := HV4.out
        cases ev
        obtain ⟨b, off, rfl, d0, d1, d2⟩ := hc k v hv
        replace d0 := HK.out.2.cell d0
        replace d1 := HK.out.2.cell d1
        replace d2 := HK.out.2.cell d2
        obtain ⟨ty, wd, vn⟩ := v
        simp only at d0 d1 d2 u0 u1 HI
        clear hc hnr hv
        go_wp2_with fail
        refine (Ft.inline_any ty _).mono ?_
        rintro r w5 ⟨rfl, hg5⟩
        replace d0 := hg5.cell d0
        replace d1 := hg5.cell d1
        replace d2 := hg5.cell d2
        have HG5 := Lib.hid (HK.out.2.trans hg5)
        clear hg5 d0
        cases hi : inlineB ty with
        | true =>
          cases tb with
          | true =>
            go_wp2
            go_roundw
            case rel =>
              refine ⟨k + 1, by omega, by go_num, _, rfl, ?_⟩
              show _ ∧ _
              exact ⟨HS.out (decide (2 < wd)) (by rw [decide_eq_true_eq]; exact ⟨fun h => .inl ⟨hi, h⟩, fun h => by rcases h with h | h; exact h.2; rw [show inlineB ty = false from h.1] at hi; cases hi⟩), HG5.out⟩
            case measure => simp [intOf]; omega
          | false =>
            go_wp2
            go_roundw
            case rel =>
              refine ⟨k + 1, by omega, by go_num, _, rfl, ?_⟩
              show _ ∧ _
              exact ⟨HS.out (decide (2 < wd)) (by rw [decide_eq_true_eq]; exact ⟨fun h => .inl ⟨hi, h⟩, fun h => by rcases h with h | h; exact h.2; rw [show inlineB ty = false from h.1] at hi; cases hi⟩), HG5.out⟩
            case measure => simp [intOf]; omega
        | false =>
          have hvn := HI.out hi
          have hlt2 : (k : Int) < L.length := by omega
          cases tb with
          | true =>
            go_wp2_with fail
            go_quiet (fail)
            go_wp2
            go_roundw
            case rel =>
              refine ⟨k + 1, by omega, by go_num, _, rfl, ?_⟩
              show _ ∧ _
              exact ⟨HS.out (decide ((65536 : Int) ≤ ((n : Int) + 2 - 1) / 2 * 2 + ((k : Int) + 1) * 2 - vn)) (tight_far hi _ (by decide) _ (by omega)), HG5.out.drewN _⟩
            case measure => simp [intOf]; omega
          | false =>
            go_wp2_with fail
            go_quiet (fail)
            go_wp2
            go_roundw
            case rel =>
              refine ⟨k + 1, by omega, by go_num, _, rfl, ?_⟩
              show _ ∧ _
              exact ⟨HS.out (decide ((65536 : Int) ≤ ((n : Int) + 2 - 1) / 2 * 2 + ((k : Int) + 1) * 2 - vn)) (tight_far hi _ (by decide) _ (by omega)), HG5.out.drewN _⟩
            case measure => simp [intOf]; omega
      · have ek : k = L.length := by omega
        subst ek
        have htb : tb = true := HK.out.1.2 (HT2.out.imp (fun h => h) (fun ⟨i, v, h1, h2⟩ => ⟨i, (List.getElem?_eq_some_iff.1 h1).1, v, h1, h2⟩))
        subst htb
        have HG6 : Hid (Grew w1 wr) := HGW.out.trans HK.out.2
        clear HK HT2
        go_wp2_with fail
        refine (works17_any _).mono ?_
        rintro r w5 ⟨rfl, hg5⟩
        have HG5 : Hid (Grew w1 w5) := HG6.out.trans hg5
        clear hg5
        go_wp2
        go_ret
        exact ⟨rfl, HG5.out⟩
  · clear hw hxp
    have HT2 := Lib.hid (HTI.out 4 (by decide) (by decide))
    clear HTI
    go_wp2_with fail
    go_loopw [11, 12] (fun t i wr => ∃ k : Nat, k ≤ L.length ∧ i = .int .i64 k ∧ ∃ tb : Bool, t = .bool tb ∧ Hid (tightTo 4 (((n : Int) + 4 - 1) / 4 * 4) 4294967296 L k tb ∧ Grew w4 wr)) (fun _ i _ => L.length - (intOf i).toNat)
    case atStart =>
      refine ⟨0, Nat.zero_le _, rfl, _, rfl, ?_⟩
      show _ ∧ _
      exact ⟨tightTo.zero _ _ _ _, (Grew.refl w4).alloc _⟩
    case round =>
      obtain ⟨k, hk, rfl, tb, rfl, HK⟩ := hrel
      by_cases hlt : k < L.length
      · obtain ⟨v, hv⟩ : ∃ v, L[k]? = some v := ⟨_, List.getElem?_eq_getElem hlt⟩
        have HS := Lib.hid (fun nb hnb => HK.out.1.step hv nb hnb)
        have hnr := HNR.out v (List.mem_of_getElem? hv)
        have HI : Hid (inlineB v.1 = false → v.2.2 ≤ n) := hnr.2.2.2
        obtain ⟨u0, u1⟩ := hnr.2.1
        obtain ⟨va', vc', ev, hc⟩ := HV4.out
        cases ev
        obtain ⟨b, off, rfl, d0, d1, d2⟩ := hc k v hv
        replace d0 := HK.out.2.cell d0
        replace d1 := HK.out.2.cell d1
        replace d2 := HK.out.2.cell d2
        obtain ⟨ty, wd, vn⟩ := v
        simp only at d0 d1 d2 u0 u1 HI
        clear hc hnr hv
        go_wp2_with fail
        refine (Ft.inline_any ty _).mono ?_
        rintro r w5 ⟨rfl, hg5⟩
        replace d0 := hg5.cell d0
        replace d1 := hg5.cell d1
        replace d2 := hg5.cell d2
        have HG5 := Lib.hid (HK.out.2.trans hg5)
        clear hg5 d0
        cases hi : inlineB ty with
        | true =>
          cases tb with
          | true =>
            go_wp2
            go_roundw
            case rel =>
              refine ⟨k + 1, by omega, by go_num, _, rfl, ?_⟩
              show _ ∧ _
              exact ⟨HS.out (decide (4 < wd)) (by rw [decide_eq_true_eq]; exact ⟨fun h => .inl ⟨hi, h⟩, fun h => by rcases h with h | h; exact h.2; rw [show inlineB ty = false from h.1] at hi; cases hi⟩), HG5.out⟩
            case measure => simp [intOf]; omega
          | false =>
            go_wp2
            go_roundw
            case rel =>
              refine ⟨k + 1, by omega, by go_num, _, rfl, ?_⟩
              show _ ∧ _
              exact ⟨HS.out (decide (4 < wd)) (by rw [decide_eq_true_eq]; exact ⟨fun h => .inl ⟨hi, h⟩, fun h => by rcases h with h | h; exact h.2; rw [show inlineB ty = false from h.1] at hi; cases hi⟩), HG5.out⟩
            case measure => simp [intOf]; omega
        | false =>
          have hvn := HI.out hi
          have hlt2 : (k : Int) < L.length := by omega
          cases tb with
          | true =>
            go_wp2_with fail
            go_quiet (fail)
            go_wp2
            go_roundw
            case rel =>
              refine ⟨k + 1, by omega, by go_num, _, rfl, ?_⟩
              show _ ∧ _
              exact ⟨HS.out (decide ((4294967296 : Int) ≤ ((n : Int) + 4 - 1) / 4 * 4 + ((k : Int) + 1) * 4 - vn)) (tight_far hi _ (by decide) _ (by omega)), HG5.out.drewN _⟩
            case measure => simp [intOf]; omega
          | false =>
            go_wp2_with fail
            go_quiet (fail)
            go_wp2
            go_roundw
            case rel =>
              refine ⟨k + 1, by omega, by go_num, _, rfl, ?_⟩
              show _ ∧ _
              exact ⟨HS.out (decide ((4294967296 : Int) ≤ ((n : Int) + 4 - 1) / 4 * 4 + ((k : Int) + 1) * 4 - vn)) (tight_far hi _ (by decide) _ (by omega)), HG5.out.drewN _⟩
            case measure => simp [intOf]; omega
      · have ek : k = L.length := by omega
        subst ek
        have htb : tb = true := HK.out.1.2 (HT2.out.imp (fun h => h) (fun ⟨i, v, h1, h2⟩ => ⟨i, (List.getElem?_eq_some_iff.1 h1).1, v, h1, h2⟩))
        subst htb
        have HG6 : Hid (Grew w1 wr) := HGW.out.trans HK.out.2
        clear HK HT2
        go_wp2_with fail
        refine (works17_any _).mono ?_
        rintro r w5 ⟨rfl, hg5⟩
        have HG5 : Hid (Grew w1 w5) := HG6.out.trans hg5
        clear hg5
        go_wp2
        go_ret
        exact ⟨rfl, HG5.out⟩


set_option maxRecDepth 100000 in
theorem vecLeast_row {H : Type} (enc : TypeId × Value → H) (W : World) (base : Nat) (v0 : Value) (d0 : DataW H) (p0 : List MemPlace) (o0 : Value.okWide Try.prog W .any base 3 v0) (k0 : DataW.Trod enc Try.prog W 0 (fun _ => true) true 3 v0 d0 p0) (v1 : Value) (d1 : DataW H) (p1 : List MemPlace) (o1 : Value.okWide Try.prog W .any base 22 v1) (k1 : DataW.Trod enc Try.prog W 0 (fun _ => true) true 22 v1 d1 p1) :
    Calls Try.prog 3 #[v0, v1] W fun e w' => e = .returned (.bool true) ∧ Below W.heap.size W w' := by
  obtain ⟨m, rfl, _, _, _⟩ := open_int Try.underlying3 o0 k0
  obtain ⟨l, hl, hlen, _⟩ := open_Prs o1 k1
  exact vecLeast_any m v1 l W hl.pairs hlen

theorem vecLeast_own : ownKnob Try.prog.godebug = none := by kernel_rfl
theorem vecLeast_laidOut : laidOutB Try.prog = true := by kernel_rfl

set_option maxRecDepth 100000 in
theorem vecLeast_lifted (os : Os) (started : os.Started) (H : Type) (enc : TypeId × Value → H) :
    ReturnsInHanded {} Try.checked os 3 .any (Rows.vecLeastSpec.pre6 enc Try.prog Try.f3 Rows.vecLeastRow.domain false) (Rows.vecLeastSpec.post enc Try.prog Try.f3 false true false false) := by
  refine returnsInHanded_of_change (C := Try.checked) vecLeast_own started (by kernel_rfl) Try.func3
    (ChangeSpec.witness6 (enc := enc) (C := Try.checked) false ⟨#[], #[.int .i64 0, .slice none 0 0], []⟩ 8 (by kernel_rfl) (by kernel_rfl) (by kernel_rfl) (by kernel_rfl)) ?_
  intro W base args ds gs before hval0 hW hcnd _
  have hval : ∀ (j : Nat) t v, Try.f3.params[j]? = some t → args[j]? = some v → Value.okWide Try.prog W .any base t v := hval0
  have hW' := hW
  obtain ⟨p, q, hA0, hV, rfl, hfz, hnd⟩ := hW
  have hA : DataW.TrodAll enc Try.prog W 0 (fun _ => true) true Try.f3.params.toList args.toList ds p := hA0
  rw [Try.params3] at hA hval
  obtain ⟨v0, vs0, d0, ds0, p0, q0, hargs, rfl, rfl, h0, r0⟩ := trodAll_cons hA
  obtain ⟨v1, vs1, d1, ds1, p1, q1, rfl, rfl, rfl, h1, r1⟩ := trodAll_cons r0
  obtain ⟨rfl, rfl, rfl⟩ := trodAll_nil r1
  obtain rfl : args = #[v0, v1] := by cases args; simp_all
  obtain ⟨rfl, rfl⟩ := trodVars_none hV
  have lt0 : ∀ x ∈ p0, x.block < W.heap.size := by obtain ⟨m, hm⟩ := h0; exact DataW.trod_lt m _ _ _ hm
  have lt1 : ∀ x ∈ p1, x.block < W.heap.size := by obtain ⟨m, hm⟩ := h1; exact DataW.trod_lt m _ _ _ hm
  have hw := vecLeast_row enc W base v0 d0 p0 (hval 0 3 v0 rfl rfl) h0 v1 d1 p1 (hval 1 22 v1 rfl rfl) h1
  clear hA0 hval0
  refine hw.mono fun e W' ⟨he, bel⟩ => ?_
  subst he
  exact ⟨_, rfl, _, _, _, [], _, [], hW', trodAll_mk1 (shut_bool Try.underlying4 _), (trodAll_cons_mk (Below.trod vecLeast_laidOut (by kernel_rfl) (of_decide_eq_true (by kernel_rfl)) h0 bel lt0) (trodAll_cons_mk (Below.trod vecLeast_laidOut (by kernel_rfl) (of_decide_eq_true (by kernel_rfl)) h1 bel lt1) trodAll_mk0)), rfl, Below.frame bel _, fun h => by cases h⟩

/-- The statement. -/
theorem vecLeast_holds : Rows.VecLeastSaid :=
  OpenClaim.holds_of_wide 3 Try.f3 rfl rfl rfl rfl rfl rfl rfl ⟨rfl, rfl, rfl, rfl, rfl⟩ rfl rfl rfl rfl rfl (by kernel_rfl) Try.func3 (by kernel_rfl)
    (of_decide_eq_true (by kernel_rfl)) (by unfold Func.isWrapper; first | (rw [if_pos (by decide +kernel)]; kernel_rfl) | (rw [if_neg (by decide +kernel)]; exact ⟨rfl, rfl⟩))
    (fun os started H enc _ => vecLeast_lifted os started H enc)
end Go.Proofs.Ytaoflhddcbmacaa
