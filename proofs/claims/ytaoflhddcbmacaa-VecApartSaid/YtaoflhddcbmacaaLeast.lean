/-
  Walks of fit.widths, its iterator, and fit.least: least returns the first of 1, 2, 4, 8 at which the function that it is handed says yes, or 0. Condition: that function answers by a plain predicate and lets the world only grow.
-/
import Derived.RangeFuncNested
import Derived.RangeFuncBound
import Derived.RangeFuncCalls
import Derived.RangeFuncLeaves
import Derived.Shelf.Abstract
import Derived.Shelf.RegionOpen
import Derived.WalkKit
import Derived.OwnWalkIn
import Derived.TacticsInMore
import Derived.LoopNIn
import Derived.LoopIn
import Derived.Test.YtaoflhddcbmacaaFits
namespace Go.Proofs.Ytaoflhddcbmacaa.Ft
open Go Go.RowKit Go.Shelf
attribute [local go_sem] Oper.semAt_some

theorem Grew.keeps {W W' : World} (h : Grew W W') : KeepsOthers W W' := ⟨h.size, fun _ _ hk _ => Grew.heap h hk⟩

theorem cell_new_l (W : World) (v : Value) (t : TypeId) : (W.alloc (.cells #[v] t)).cell? ⟨W.heap.size, 0, none⟩ = some v ∧ (W.alloc (.cells #[v] t)).frozen? ⟨W.heap.size, 0, none⟩ = false :=
  ⟨by simp, by simp⟩
theorem cell_alloc_l {W : World} {a : Addr} {v : Value} (o : Obj) (h : W.cell? a = some v) : (W.alloc o).cell? a = some v := Grew.cell ((Grew.refl W).alloc o) h
theorem frozen_alloc_l {W : World} {a : Addr} {v : Value} (o : Obj) (h : W.cell? a = some v) (hf : W.frozen? a = false) : (W.alloc o).frozen? a = false := Grew.frozen ((Grew.refl W).alloc o) (lt_of_cell h) hf

/-- The iterator over 1, 2, 4, 8. -/
abbrev Wid := { x : Int // isW x }
def wd1 : Wid := ⟨1, .inl rfl⟩
def wd2 : Wid := ⟨2, .inr (.inl rfl)⟩
def wd4 : Wid := ⟨4, .inr (.inr (.inl rfl))⟩
def wd8 : Wid := ⟨8, .inr (.inr (.inr rfl))⟩
theorem widths1_stops (w : World) : SeqStopsK Fence.wide 9 Try.prog 67 #[] (fun v : Wid => #[Value.int .i64 v.1]) (fun _ _ => True) (fun xs => xs = [wd1, wd2, wd4, wd8]) (fun pre => pre <+: [wd1, wd2, wd4, wd8]) 4 w := by
  intro l J Jx W _ _ _ hY h0
  refine callsIn_of_wp Try.func67 rfl trivial ?_ rfl
  simp only [Try.ntmps67, List.size_toArray, List.length_cons, List.length_nil, Nat.reduceAdd, Nat.reduceSub, Array.replicate_succ, Array.replicate_zero, List.push_toArray, List.append_toArray, List.nil_append, List.cons_append]
  gi_wp2
  gi_loopw [2] (fun v wr => (v = .int .i64 1 ∧ J [] wr) ∨ (v = .int .i64 2 ∧ J [wd1] wr) ∨ (v = .int .i64 4 ∧ J [wd1, wd2] wr) ∨ (v = .int .i64 8 ∧ J [wd1, wd2, wd4] wr) ∨ (v = .int .i64 16 ∧ J [wd1, wd2, wd4, wd8] wr)) (fun v _ => 16 - (intOf v).toNat)
  case atStart => exact .inl ⟨rfl, h0⟩
  case round =>
    rcases hrel with ⟨rfl, hJ⟩ | ⟨rfl, hJ⟩ | ⟨rfl, hJ⟩ | ⟨rfl, hJ⟩ | ⟨rfl, hJ⟩
    · obtain ⟨fn, tmps, assign, body, hy, hR⟩ := hY _ wd1 wr hJ (by simp)
      dsimp only [wd1] at hy
      gi_wp2
      refine hR.mono ?_
      rintro e W3 (⟨rfl, hJ3, _⟩ | ⟨rfl, hJx3⟩)
      · gi_wp2
        go_roundw
        case rel => exact .inr (.inl ⟨rfl, hJ3⟩)
        case measure => simp [intOf]
      · gi_wp2
        refine bodyPost_ret (results_none rfl _ _ _) rfl ?_
        exact ⟨⟨_, rfl⟩, .inr ⟨_, ⟨[wd2, wd4, wd8], rfl⟩, hJx3⟩⟩
    · obtain ⟨fn, tmps, assign, body, hy, hR⟩ := hY _ wd2 wr hJ (by simp)
      dsimp only [wd2] at hy
      gi_wp2
      refine hR.mono ?_
      rintro e W3 (⟨rfl, hJ3, _⟩ | ⟨rfl, hJx3⟩)
      · gi_wp2
        go_roundw
        case rel => exact .inr (.inr (.inl ⟨rfl, hJ3⟩))
        case measure => simp [intOf]
      · gi_wp2
        refine bodyPost_ret (results_none rfl _ _ _) rfl ?_
        exact ⟨⟨_, rfl⟩, .inr ⟨_, ⟨[wd4, wd8], rfl⟩, hJx3⟩⟩
    · obtain ⟨fn, tmps, assign, body, hy, hR⟩ := hY _ wd4 wr hJ (by simp)
      dsimp only [wd4] at hy
      gi_wp2
      refine hR.mono ?_
      rintro e W3 (⟨rfl, hJ3, _⟩ | ⟨rfl, hJx3⟩)
      · gi_wp2
        go_roundw
        case rel => exact .inr (.inr (.inr (.inl ⟨rfl, hJ3⟩)))
        case measure => simp [intOf]
      · gi_wp2
        refine bodyPost_ret (results_none rfl _ _ _) rfl ?_
        exact ⟨⟨_, rfl⟩, .inr ⟨_, ⟨[wd8], rfl⟩, hJx3⟩⟩
    · obtain ⟨fn, tmps, assign, body, hy, hR⟩ := hY _ wd8 wr hJ (by simp)
      dsimp only [wd8] at hy
      gi_wp2
      refine hR.mono ?_
      rintro e W3 (⟨rfl, hJ3, _⟩ | ⟨rfl, hJx3⟩)
      · gi_wp2
        go_roundw
        case rel => exact .inr (.inr (.inr (.inr ⟨rfl, hJ3⟩)))
        case measure => simp [intOf]
      · gi_wp2
        refine bodyPost_ret (results_none rfl _ _ _) rfl ?_
        exact ⟨⟨_, rfl⟩, .inr ⟨_, ⟨[], rfl⟩, hJx3⟩⟩
    · gi_wp2
      go_end0
      exact ⟨⟨_, rfl⟩, .inl ⟨_, rfl, hJ⟩⟩

theorem widths_any (w : World) : Calls Try.prog 61 #[] w fun e w' => e = .returned (.func (.func 67) #[] #[]) ∧ w = w' := by
  go_enter Try.func61, Try.ntmps61
  go_wp2
  go_ret
  exact ⟨rfl, rfl⟩

/-- The least width of a predicate, or 0. -/
def leastOf (p : Int → Bool) : Int := if p 1 then 1 else if p 2 then 2 else if p 4 then 4 else if p 8 then 8 else 0

/-- A function value that answers by p, from W0 on. -/
def Answers (g : Nat) (lb : Array Value) (W0 : World) (p : Int → Bool) : Prop :=
  ∀ v, isW v → ∀ W, Grew W0 W → Calls Try.prog g (#[.int .i64 v] ++ lb) W fun e W' => e = .returned (.bool (p v)) ∧ Grew W W'

set_option maxRecDepth 100000 in
set_option maxHeartbeats 2000000 in
theorem leastFit_any (g : Nat) (lb : Array Value) (p : Int → Bool) (w : World) (he : ∀ args w, (callFunc g args).run Try.prog w = .ok (.enter g args) w) (hp : Answers g lb w p) :
    Calls Try.prog 46 #[.func (.func g) #[] lb] w fun e W' => e = .returned (.int .i64 (leastOf p)) ∧ Grew w W' := by
  have HP := Lib.hid hp
  clear hp
  refine (callsIn_wide (n := 10)).1 ?_
  refine callsIn_of_wp_marks Try.func46 rfl trivial ?_ rfl
  simp only [Try.ntmps46, List.size_toArray, List.length_cons, List.length_nil, Nat.reduceAdd, Nat.reduceSub, Array.replicate_succ, Array.replicate_zero, List.push_toArray, List.append_toArray, List.nil_append, List.cons_append]
  gi_wp2_with fail
  refine ⟨trivial, (callsIn_wide.2 (widths_any _)).mono ?_⟩
  rintro e w' ⟨rfl, rfl⟩
  have c0 := cell_new_l w (.func (.func g) #[] lb) 35
  have c1 := cell_new_l (w.alloc (.cells #[.func (.func g) #[] lb] 35)) (.int .i64 0) 3
  simp only [World.size_alloc] at c1
  have hB0 : Below w.heap.size w ((w.alloc (.cells #[.func (.func g) #[] lb] 35)).alloc (.cells #[.int .i64 0] 3)) := ((Below.refl _ w).alloc (Nat.le_refl _) _).alloc (by simp) _
  gi_wp2_with fail
  refine wpIn_rangeFunc_ownF rfl (by omega) (gf := 67) (lb := #[]) rfl trivial (enters_of Try.func67 (by kernel_rfl) rfl)
    (widths1_stops _) (fun _ _ => trivial) (fun _ _ _ _ _ _ _ _ => trivial) (Below.refl _ _) (fun _ => rfl)
    (fun pre W => ((∀ y ∈ pre, p y.1 = false) ∧ W.cell? ⟨w.heap.size, 0, none⟩ = some (.func (.func g) #[] lb) ∧ W.cell? ⟨w.heap.size + 1, 0, none⟩ = some (.int .i64 0) ∧ W.frozen? ⟨w.heap.size + 1, 0, none⟩ = false) ∧ Below w.heap.size w W)
    (fun c pre W => (c = .ret ∧ (∃ x q, pre = q ++ [x] ∧ p x.1 = true ∧ (∀ y ∈ q, p y.1 = false) ∧ W.cell? ⟨w.heap.size + 1, 0, none⟩ = some (.int .i64 x.1))) ∧ Below w.heap.size w W)
    (OwnFrom.and (Own.from (fun s A B row hs hg hr => ⟨hs.1, cell_kept hs.2.1 hg hr, cell_kept hs.2.2.1 hg hr, (frozen_kept hs.2.2.1 hg hr).trans hs.2.2.2⟩) _) (ownFrom_below (Nat.le_refl _) (by simp; omega)))
    (fun c => OwnFrom.and (Own.from (fun s A B row hs hg hr => ⟨hs.1, by obtain ⟨x, q, h1, h2, h3, h4⟩ := hs.2; exact ⟨x, q, h1, h2, h3, cell_kept h4 hg hr⟩⟩) _) (ownFrom_below (Nat.le_refl _) (by simp; omega)))
    ⟨⟨by simp, cell_alloc_l _ c0.1, c1.1, c1.2⟩, hB0⟩
    (fun x => { tmps := #[.func (.func g) #[] lb, .pointer (some ⟨w.heap.size, 0, none⟩), .pointer (some ⟨w.heap.size + 1, 0, none⟩), .int .i64 x.1, .func (.func 67) #[] #[], .int .i64 x.1, undef, undef, undef, undef], defers := [] }) ?assign ?body ?done ?stop
  case assign =>
    intro l x W K hK
    gi_wp2
    exact hK
  case body =>
    rintro l pre x W ⟨⟨hp, hcg, hcr, hfr⟩, hB⟩ hlen
    gi_wp2_with fail
    refine ⟨trivial, ?_⟩
    refine (CallsIn.inRound l (callsIn_wide.2 (HP.out x.1 x.2 W hB))).mono ?_
    rintro e w1 ⟨rfl, hg⟩
    have hcr1 := hg.cell hcr
    have hfr1 := hg.frozen (lt_of_cell hcr) hfr
    have hcg1 := hg.cell hcg
    have hB1 : Below w.heap.size w w1 := Grew.trans hB hg
    have hk := Grew.keeps hg
    clear hcr hcg hfr hg
    by_cases hpx : p x.1 = true
    · gi_wp2
      exact ⟨hk.trans (KeepsOthers.setCell _ _ _), ⟨rfl, x, pre, rfl, hpx, hp, World.cell?_setCell_same' _ _ _ (by rw [hcr1]; rfl)⟩, hB1.setCell (p := ⟨w.heap.size + 1, 0, none⟩) (by simp) _⟩
    · have hpx' : p x.1 = false := by simpa using hpx
      clear hpx
      gi_wp2
      exact ⟨hk, trivial, ⟨fun y hy => (List.mem_append.1 hy).elim (hp y) (fun e => by simp at e; rw [e]; exact hpx'), hcg1, hcr1, hfr1⟩, hB1⟩
  case done =>
    rintro D ys W hD rfl ⟨⟨hne, _, hcr, hfr⟩, hB⟩ hK
    gi_wp2
    have hK' := (KeepsOthers.setCell W ⟨w.heap.size + 1, 0, none⟩ (.int .i64 0)).same D _ hK rfl
    refine ⟨by simp, .inl ⟨_, _, rfl, run_takeDeferred hK', ?_⟩⟩
    have hc5 := cell_kept (World.cell?_setCell_same' W ⟨w.heap.size + 1, 0, none⟩ (.int .i64 0) (by rw [hcr]; rfl)) (grownBy_putObj' _ D (.deferred none)) (fun r e => by cases e; exact ⟨_, hK', rfl⟩)
    have h1 := hne wd1 (by simp)
    have h2 := hne wd2 (by simp)
    have h4 := hne wd4 (by simp)
    have h8 := hne wd8 (by simp)
    dsimp only [wd1, wd2, wd4, wd8] at h1 h2 h4 h8
    refine ⟨.int .i64 0, ?_, by unfold leastOf; rw [h1, h2, h4, h8]; rfl, (hB.setCell (p := ⟨w.heap.size + 1, 0, none⟩) (by simp) _).trans (belowK_b (w := w) (Nat.le_refl _) _ D _ _ (by simp at hD; omega) hK' rfl rfl)⟩
    simp [results, Try.f46, go_sem, hc5]
  case stop =>
    rintro D c pre W hD hpre ⟨⟨rfl, x, q, rfl, hpx, hq, hcr⟩, hB⟩ hK
    gi_wp2
    refine ⟨by simp, .inl ⟨_, _, rfl, run_takeDeferred hK, ?_⟩⟩
    have hc5 := cell_kept hcr (grownBy_putObj' _ D (.deferred none)) (fun r e => by cases e; exact ⟨_, hK, rfl⟩)
    have hl : leastOf p = x.1 := by
      unfold leastOf
      obtain ⟨r, hr⟩ := hpre
      match q, hq, hr with
      | [], _, hr =>
        simp at hr
        obtain ⟨rfl, _⟩ := hr
        dsimp only [wd1] at hpx ⊢
        rw [hpx]; rfl
      | [a], hq, hr =>
        simp at hr
        obtain ⟨rfl, rfl, _⟩ := hr
        have h1 := hq wd1 (by simp)
        dsimp only [wd1, wd2] at h1 hpx ⊢
        rw [h1, hpx]; rfl
      | [a, b], hq, hr =>
        simp at hr
        obtain ⟨rfl, rfl, rfl, _⟩ := hr
        have h1 := hq wd1 (by simp)
        have h2 := hq wd2 (by simp)
        dsimp only [wd1, wd2, wd4] at h1 h2 hpx ⊢
        rw [h1, h2, hpx]; rfl
      | [a, b, c], hq, hr =>
        simp at hr
        obtain ⟨rfl, rfl, rfl, rfl, _⟩ := hr
        have h1 := hq wd1 (by simp)
        have h2 := hq wd2 (by simp)
        have h4 := hq wd4 (by simp)
        dsimp only [wd1, wd2, wd4, wd8] at h1 h2 h4 hpx ⊢
        rw [h1, h2, h4, hpx]; rfl
      | a :: b :: c :: d :: q, _, hr =>
        have := congrArg List.length hr
        simp at this
    refine ⟨.int .i64 x.1, ?_, by rw [hl], hB.trans (belowK_b (w := w) (Nat.le_refl _) W D _ _ (by simp at hD; omega) hK rfl rfl)⟩
    simp [results, Try.f46, go_sem, hc5]

end Go.Proofs.Ytaoflhddcbmacaa.Ft
