/-
  The reference buffer: fail, put, Cut, Bytes.
-/
import Derived.Test.YtejaklkageieoaaBufBytes
namespace Go.Proofs.Ytejaklkageieoaa
open Go Go.ChangeShapes Go.WideShapes Go.ChangeAt Go.RowKit Go.Joins
set_option linter.unusedVariables false
set_option linter.unusedSimpArgs false

theorem three_cells {w : World} {p : Nat} {a b c : Value} {t : TypeId} (h : w.heap[p]? = some (.cells #[a, b, c] t (0, 0))) :
    w.cell? ⟨p, 0, none⟩ = some a ∧ w.cell? ⟨p, 1, none⟩ = some b ∧ w.cell? ⟨p, 2, none⟩ = some c :=
  ⟨by rw [cell_of_row w p 0 _ _ _ h]; rfl, by rw [cell_of_row w p 1 _ _ _ h]; rfl, by rw [cell_of_row w p 2 _ _ _ h]; rfl⟩
theorem heap_set3 {w : World} {p : Nat} {a b c : Value} {t : TypeId} (h : w.heap[p]? = some (.cells #[a, b, c] t (0, 0))) (v : Value) :
    (w.setCell ⟨p, 2, none⟩ v).heap[p]? = some (.cells #[a, b, v] t (0, 0)) ∧ (w.setCell ⟨p, 0, none⟩ v).heap[p]? = some (.cells #[v, b, c] t (0, 0)) :=
  ⟨by have := heap_setCell_same w p 2 _ _ v h; simpa using this, by have := heap_setCell_same w p 0 _ _ v h; simpa using this⟩
theorem rfail_any {B : Nat} {w : World} {p : Nat} {o : Option Nat} {l : List UInt8} {most e : Int} (x : Int) (h : RefAt B w p o l most e) :
    Calls Try.prog 50 #[bptr p, .int .i64 x] w fun r w' => r = .returned (.tuple #[]) ∧ RefAt B w' p o l most (failS e x) ∧ Moved (Own2 p o) w w' := by
  have HB := Lib.hid h
  obtain ⟨hB, v, h1, h2, h3, h4⟩ := h
  obtain ⟨c0, c1, c2⟩ := three_cells h1
  have H1 := Lib.hid h1
  have H2 := Lib.hid h2
  have H3 := Lib.hid h3
  have f3 := row_frozen h1 2
  clear h1 h2 h3
  have hnew : Hid (RefAt B (w.setCell ⟨p, 2, none⟩ (.int .i64 x)) p o l most x ∧ Moved (Own2 p o) w (w.setCell ⟨p, 2, none⟩ (.int .i64 x))) := by
    have hm : Moved (fun k => k = p) w (w.setCell ⟨p, 2, none⟩ (.int .i64 x)) := Moved.setCell (p := ⟨p, 2, none⟩) (Moved.refl (fun k => k = p) w) (fun _ => rfl) _
    exact ⟨⟨hB, v, (heap_set3 H1.out _).1, hm.owns H2.out (fun k hk he => h4 (by rw [← H3.out, hk, he])), H3.out, h4⟩, moved_set w p 2 o _⟩
  go_enter Try.func50, Try.ntmps50
  by_cases he : e = 0
  · subst he
    go_wp2
    go_end0
    exact ⟨rfl, hnew.out.1, hnew.out.2⟩
  · go_wp2
    go_end0
    refine ⟨rfl, ?_, Moved.refl _ _⟩
    rw [failS, if_neg he]
    exact HB.out

/-- The reference behind the store of a new row. -/
theorem rput_done {B : Nat} {w w3 : World} {p : Nat} {o : Option Nat} {l' : List UInt8} {most e : Int} {v v' : Value} (hBp : B ≤ p) (h1 : w.heap[p]? = some (.cells #[v, .int .i64 most, .int .i64 e] 39 (0, 0))) (h3 : v.ownBlock = o) (h4 : o ≠ some p)
    (hown : w3.ownsRow B 5 1 v' l'.length (Lib.byteCells l')) (hgr : w.grownBy w3 v.ownBlock) (hnx : Next w v.ownBlock v'.ownBlock) :
    w3.heap[p]? = some (.cells #[v, .int .i64 most, .int .i64 e] 39 (0, 0)) ∧
    (RefAt B (w3.setCell ⟨p, 0, none⟩ v') p v'.ownBlock l' most e ∧ Next w o v'.ownBlock ∧ Moved (Own2 p o) w (w3.setCell ⟨p, 0, none⟩ v')) := by
  have hlt : p < w.heap.size := (Array.getElem?_eq_some_iff.1 h1).1
  have hp3 : w3.heap[p]? = some (.cells #[v, .int .i64 most, .int .i64 e] 39 (0, 0)) := (hgr.block p hlt (fun he => h4 (by rw [← h3, ← he]))).trans h1
  rw [h3] at hnx
  have hne : v'.ownBlock ≠ some p := by
    intro hq
    rcases hnx p hq with hn | hn
    · exact h4 hn
    · omega
  have hm : Moved (fun k => k = p) w3 (w3.setCell ⟨p, 0, none⟩ v') := Moved.setCell (p := ⟨p, 0, none⟩) (Moved.refl (fun k => k = p) w3) (fun _ => rfl) _
  refine ⟨hp3, ⟨hBp, v', (heap_set3 hp3 _).2, hm.owns hown (fun k hk he => hne (by rw [hk, he])), rfl, hne⟩, hnx, ?_⟩
  refine (Moved.of_grown hgr).mono (T := Own2 p o) (fun j _ hj => .inr (by rw [hj, h3])) |>.trans hm (fun j _ hj => .inl hj)

theorem rput_any {B : Nat} {w : World} {p : Nat} {o : Option Nat} {l : List UInt8} {most e : Int} (sv : Value) (x : List UInt8) (h : RefAt B w p o l most e) (hB : B ≤ w.heap.size) (hm : l.length ≤ 1048576) (hm0 : 0 ≤ most) (hm1 : most ≤ 1048576) (hx : BytesAt w sv x) (hxl : x.length ≤ 9223372036854775807) :
    Calls Try.prog 51 #[bptr p, sv] w fun r w' => r = .returned (.tuple #[]) ∧ ∃ o', RefAt B w' p o' (putL l x most e) most (putE l x most e) ∧ Next w o o' ∧ Moved (Own2 p o) w w' := by
  have HB := Lib.hid h
  have HX := Lib.hid hx
  obtain ⟨hBp, v, h1, h2, h3, h4⟩ := h
  obtain ⟨c0, c1, c2⟩ := three_cells h1
  obtain ⟨va, vc, rfl, _, _⟩ := row_form h2
  obtain ⟨xa, xc, rfl, _, _, _⟩ := hx
  have H1 := Lib.hid h1
  have H2 := Lib.hid h2
  have H3 := Lib.hid h3
  have H4 := Lib.hid h4
  have f1 := row_frozen h1 0
  clear h1 h2 h3 h4
  go_enter Try.func51, Try.ntmps51
  go_wp2_with fail
  go_quiet (fail)
  have G := (Grew.refl w).drewN nq
  replace c0 := Grew.cell G c0
  replace c1 := Grew.cell G c1
  replace c2 := Grew.cell G c2
  have HB2 := Lib.hid (HB.out.grew G)
  have HX2 := Lib.hid (HX.out.grew G)
  have H12 := Lib.hid (Grew.heap G H1.out)
  have H22 := Lib.hid ((Moved.of_grew (S := fun _ => False) G).owns H2.out (fun _ _ h => h))
  replace f1 := row_frozen H12.out 0
  have hB2 : B ≤ (w.drewN nq).heap.size := Nat.le_trans hB (Grew.size G)
  have HG := Lib.hid G
  clear G H1 H2 HX hB
  generalize w.drewN nq = w2 at *
  by_cases hlt : (x.length : Int) ≤ most - l.length
  · by_cases he : e = 0
    · subst he
      go_wp2_with (at_builtin; refine wpList_appendB rfl _ _ rfl B (.slice va l.length vc) l rfl H22.out _ x rfl HX2.out (by omega) hB2 ?_; intro v' w3 hown hgr hqq; obtain ⟨va2, vc2, rfl, _, _⟩ := row_form hown; have hd := rput_done hBp H12.out H3.out H4.out hown hgr hqq; have hp3 := hd.1; have HD := Lib.hid hd.2; clear hd; obtain ⟨d0, d1, d2⟩ := three_cells hp3; replace f1 := row_frozen hp3 0; clear hp3 hown hgr hqq c0 c1 c2)
      go_wp2
      go_end0
      have HE := HD.out
      rw [List.length_append] at HE
      replace HD := Lib.hid HE
      clear HE
      refine ⟨rfl, Value.ownBlock (.slice va2 (l.length + x.length) vc2), ?_, ?_, ?_⟩
      · rw [putL, putE, if_pos ⟨rfl, hlt⟩, if_neg (fun h => h.2 hlt)]
        exact HD.out.1
      · exact HD.out.2.1.earlier (Grew.size HG.out)
      · exact (Moved.of_grew (S := Own2 p o) HG.out).trans' HD.out.2.2
    · go_wp2
      go_end0
      refine ⟨rfl, o, ?_, Next.refl _ _, Moved.of_grew HG.out⟩
      rw [putL, putE, if_neg (fun h => he h.1), if_neg (fun h => he h.1)]
      exact HB2.out
  · go_wp2_with fail
    refine (rfail_any 5 HB2.out).mono ?_
    rintro r w3 ⟨rfl, hb3, hm3⟩
    have HD := Lib.hid (And.intro hb3 hm3)
    obtain ⟨_, v3, h1, _⟩ := hb3
    obtain ⟨d0, d1, d2⟩ := three_cells h1
    clear h1 hm3 c0 c1 c2
    by_cases he : e = 0
    · subst he
      rw [show failS 0 5 = 5 from rfl] at d2
      go_wp2
      go_end0
      refine ⟨rfl, o, ?_, Next.refl _ _, (Moved.of_grew (S := Own2 p o) HG.out).trans' HD.out.2⟩
      rw [putL, putE, if_neg (fun h => by have := h.2; omega), if_pos ⟨rfl, by omega⟩]
      exact HD.out.1
    · rw [show failS e 5 = e from if_neg he] at d2
      have HD2 := HD.out
      rw [show failS e 5 = e from if_neg he] at HD2
      replace HD := Lib.hid HD2
      clear HD2
      go_wp2
      go_end0
      refine ⟨rfl, o, ?_, Next.refl _ _, (Moved.of_grew (S := Own2 p o) HG.out).trans' HD.out.2⟩
      rw [putL, putE, if_neg (fun h => he h.1), if_neg (fun h => he h.1)]
      exact HD.out.1

end Go.Proofs.Ytejaklkageieoaa
