/-
  The buffer's Cut, and the copy of its contents (Bytes).
-/
import Derived.Test.YtejaklkageieoaaBufPut
namespace Go.Proofs.Ytejaklkageieoaa
open Go Go.ChangeShapes Go.WideShapes Go.ChangeAt Go.RowKit Go.Joins
set_option linter.unusedVariables false
set_option linter.unusedSimpArgs false

theorem own_take {w : World} {B : Nat} {t : TypeId} {a : Option Addr} {c : Nat} {l : List UInt8} (h : w.ownsRow B t 1 (.slice a l.length c) l.length (Lib.byteCells l)) (k : Nat) (hk : k ≤ l.length) :
    w.ownsRow B t 1 (.slice a k c) (l.take k).length (Lib.byteCells (l.take k)) := by
  have hl : (l.take k).length = k := by rw [List.length_take]; omega
  rw [hl]
  obtain ⟨h1, h2⟩ := h
  refine ⟨by simp [Lib.byteCells]; omega, ?_⟩
  rcases h2 with ⟨he, hn⟩ | ⟨g, cap, cur, he, hb, hg, hn, hm, hs, ht⟩
  · injection he with e1 e2 e3
    subst e1 e3
    exact .inl ⟨by rw [show k = 0 by omega], by omega⟩
  · injection he with e1 e2 e3
    subst e1 e3
    refine .inr ⟨g, c, cur, rfl, hb, hg, by omega, hm, hs, ?_⟩
    have : Lib.byteCells (l.take k) = (Lib.byteCells l).take k := by simp [Lib.byteCells, List.map_take]
    rw [this, ← ht, List.take_take]
    congr 1
    omega

def cutL (l : List UInt8) (n e : Int) : List UInt8 := if e = 0 ∧ 0 ≤ n ∧ n ≤ l.length then l.take n.toNat else l
def cutE (l : List UInt8) (n e : Int) : Int := if e = 0 ∧ ¬ (0 ≤ n ∧ n ≤ l.length) then 6 else e
theorem cut_any {B : Nat} {w : World} {p : Nat} {o : Option Nat} {l : List UInt8} {most e : Int} (n : Int) (h : BufAt B w p o l most e) :
    Calls Try.prog 22 #[bptr p, .int .i64 n] w fun r w' => r = .returned (.tuple #[]) ∧ BufAt B w' p o (cutL l n e) most (cutE l n e) ∧ Moved (Own2 p o) w w' := by
  have HB := Lib.hid h
  obtain ⟨hBp, v, h1, h2, h3, h4⟩ := h
  obtain ⟨c0, c1, c2, c3⟩ := four_cells h1
  obtain ⟨va, vc, rfl, hcap, hnil⟩ := row_form h2
  have H1 := Lib.hid h1
  have H2 := Lib.hid h2
  have H3 := Lib.hid h3
  have H4 := Lib.hid h4
  have f1 := row_frozen h1 1
  clear h1 h2 h3 h4
  go_enter Try.func22, Try.ntmps22
  go_wp2_with fail
  refine (err_any HB.out).mono ?_
  rintro r w' ⟨rfl, rfl⟩
  by_cases he : e = 0
  · subst he
    by_cases h0 : n < 0
    · go_wp2_with fail
      refine (fail_any 6 HB.out).mono ?_
      rintro r w3 ⟨rfl, hb3, hm3⟩
      have HD := Lib.hid (And.intro hb3 hm3)
      clear hb3 hm3
      go_wp2
      go_end0
      refine ⟨rfl, ?_, HD.out.2⟩
      rw [cutL, cutE, if_neg (fun h => by have := h.2.1; omega), if_pos ⟨rfl, fun h => by have := h.1; omega⟩]
      exact HD.out.1
    · by_cases h5 : (l.length : Int) < n
      · go_wp2_with fail
        refine (fail_any 6 HB.out).mono ?_
        rintro r w3 ⟨rfl, hb3, hm3⟩
        have HD := Lib.hid (And.intro hb3 hm3)
        clear hb3 hm3
        go_wp2
        go_end0
        refine ⟨rfl, ?_, HD.out.2⟩
        rw [cutL, cutE, if_neg (fun h => by have := h.2.2; omega), if_pos ⟨rfl, fun h => by have := h.2; omega⟩]
        exact HD.out.1
      · have hn0 : 0 ≤ n := by omega
        have hn1 : n ≤ l.length := by omega
        have hn2 : n.toNat ≤ vc := by omega
        have hm : Moved (fun k => k = p) w' (w'.setCell ⟨p, 1, none⟩ (.slice va n.toNat vc)) := Moved.setCell (p := ⟨p, 1, none⟩) (Moved.refl (fun k => k = p) w') (fun _ => rfl) _
        have HD : Hid (BufAt B (w'.setCell ⟨p, 1, none⟩ (.slice va n.toNat vc)) p o (l.take n.toNat) most 0 ∧ Moved (Own2 p o) w' (w'.setCell ⟨p, 1, none⟩ (.slice va n.toNat vc))) := by
          have hob : (Value.slice va n.toNat vc).ownBlock = o := by
            rw [← H3.out]; cases va <;> rfl
          refine ⟨⟨hBp, _, (heap_set4 H1.out _).2, hm.owns (own_take H2.out n.toNat (by omega)) (fun k hk he => H4.out ?_), hob, H4.out⟩, moved_set w' p 1 o _⟩
          rw [hob] at hk
          rw [hk, he]
        clear hm h0 h5
        go_wp2
        go_end0
        refine ⟨rfl, ?_, HD.out.2⟩
        rw [cutL, cutE, if_pos ⟨rfl, hn0, hn1⟩, if_neg (fun h => h.2 ⟨hn0, hn1⟩)]
        exact HD.out.1
  · go_wp2
    go_end0
    refine ⟨rfl, ?_, Moved.refl _ _⟩
    rw [cutL, cutE, if_neg (fun h => he h.1), if_neg (fun h => he h.1)]
    exact HB.out

end Go.Proofs.Ytejaklkageieoaa
