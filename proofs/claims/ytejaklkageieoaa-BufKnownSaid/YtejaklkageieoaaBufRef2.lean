/-
  The reference buffer: the copy of bytes, Cut, Bytes.
-/
import Derived.Test.YtejaklkageieoaaBufRef
namespace Go.Proofs.Ytejaklkageieoaa
open Go Go.ChangeShapes Go.WideShapes Go.ChangeAt Go.RowKit Go.Joins
set_option linter.unusedVariables false
set_option linter.unusedSimpArgs false

theorem copy_any (w : World) (v : Value) (x : List UInt8) (h : BytesAt w v x) (hl : x.length ≤ 1099511627776) :
    Calls Try.prog 34 #[v] w fun r w' => ∃ v', r = .returned v' ∧ w'.ownsRow w.heap.size 5 1 v' x.length (Lib.byteCells x) ∧ Grew w w' := by
  have HX := Lib.hid h
  obtain ⟨a, c, rfl, hc, hnil, _⟩ := h
  have hown : Hid (w.ownsRow w.heap.size 5 1 (.slice none 0 0) ([] : List UInt8).length (Lib.byteCells [])) := World.ownsRow_nil _ _ _ _
  go_enter Try.func34, Try.ntmps34
  go_wp2_with (at_builtin; refine wpList_appendB rfl _ _ rfl w.heap.size (.slice none 0 0) [] rfl hown.out _ x rfl HX.out (by simp; omega) (Nat.le_refl _) ?_; intro v' w3 hown2 hgr hqq; obtain ⟨va2, vc2, rfl, _, _⟩ := row_form hown2; have HO := Lib.hid (And.intro hown2 hgr); clear hown2 hgr hqq)
  go_ret
  refine ⟨_, rfl, by simpa using HO.out.1, ?_⟩
  exact (Below.refl w.heap.size w).grown HO.out.2 (Nat.le_refl _) (fun k hk => by cases hk)

theorem own_base {w : World} {B B' : Nat} {t : TypeId} {v : Value} {n : Nat} {xs : List Value} (h : w.ownsRow B t 1 v n xs) (hb : B' ≤ B) : w.ownsRow B' t 1 v n xs := by
  obtain ⟨h1, h2⟩ := h
  refine ⟨h1, ?_⟩
  rcases h2 with h2 | ⟨g, cap, cur, hv, hg, r⟩
  · exact .inl h2
  · exact .inr ⟨g, cap, cur, hv, by omega, r⟩
theorem rcut_any {B : Nat} {w : World} {p : Nat} {o : Option Nat} {l : List UInt8} {most e : Int} (n : Int) (h : RefAt B w p o l most e) (hB : B ≤ w.heap.size) (hl : l.length ≤ 1099511627776) :
    Calls Try.prog 32 #[bptr p, .int .i64 n] w fun r w' => r = .returned (.tuple #[]) ∧ ∃ o', RefAt B w' p o' (cutL l n e) most (cutE l n e) ∧ Next w o o' ∧ Moved (Own2 p o) w w' := by
  have HB := Lib.hid h
  obtain ⟨hBp, v, h1, h2, h3, h4⟩ := h
  obtain ⟨c0, c1, c2⟩ := three_cells h1
  obtain ⟨va, vc, rfl, hcap, hnil⟩ := row_form h2
  have H1 := Lib.hid h1
  have H2 := Lib.hid h2
  have H3 := Lib.hid h3
  have H4 := Lib.hid h4
  clear h1 h2 h3 h4
  go_enter Try.func32, Try.ntmps32
  by_cases hin : 0 ≤ n ∧ n ≤ l.length
  · obtain ⟨hn0, hn1⟩ := hin
    by_cases he : e = 0
    · subst he
      have hn2 : n.toNat ≤ vc := by omega
      have hbt : Hid (BytesAt w (.slice va n.toNat vc) (l.take n.toNat)) := by
        have h5 := BytesAt.of_own (own_take H2.out n.toNat (by omega))
        exact h5
      go_wp2_with fail
      refine (copy_any _ _ (l.take n.toNat) hbt.out (by rw [List.length_take]; omega)).mono ?_
      rintro r w3 ⟨v', rfl, hown, hg⟩
      have hp3 := Grew.heap hg H1.out
      have hgr : w.grownBy w3 (Value.slice va l.length vc).ownBlock := ⟨hg.os, hg.tape, hg.output, Grew.size hg, fun k hk _ => hg.block k hk⟩
      obtain ⟨va2, vc2, rfl, _, _⟩ := row_form hown
      have hnx : Next w (Value.slice va l.length vc).ownBlock (Value.slice va2 (l.take n.toNat).length vc2).ownBlock := fun k hk => .inr (World.ownsRow.lt hown k hk).1
      have hd := rput_done hBp H1.out H3.out H4.out (own_base hown hB) hgr hnx
      have HD := Lib.hid hd.2
      obtain ⟨d0, d1, d2⟩ := three_cells hp3
      have f1 := row_frozen hp3 0
      clear hd hp3 hgr hnx hown hg c0 c1 c2
      go_wp2
      go_end0
      have HE := HD.out
      rw [show (l.take n.toNat).length = n.toNat by rw [List.length_take]; omega] at HE
      replace HD := Lib.hid HE
      clear HE
      refine ⟨rfl, _, ?_, HD.out.2⟩
      rw [cutL, cutE, if_pos ⟨rfl, hn0, hn1⟩, if_neg (fun h => h.2 ⟨hn0, hn1⟩)]
      exact HD.out.1
    · go_wp2
      go_end0
      refine ⟨rfl, o, ?_, Next.refl _ _, Moved.refl _ _⟩
      rw [cutL, cutE, if_neg (fun h => he h.1), if_neg (fun h => he h.1)]
      exact HB.out
  · have hout : n < 0 ∨ (l.length : Int) < n := by omega
    have HO := Lib.hid hout
    have key : ∀ w3, RefAt B w3 p o l most (failS e 6) → RefAt B w3 p o (cutL l n e) most (cutE l n e) := by
      intro w3 h
      rw [cutL, cutE, if_neg (fun h => hin h.2)]
      by_cases he : e = 0
      · rw [if_pos ⟨he, hin⟩]; subst he; exact h
      · rw [if_neg (fun h => he h.1)]; rw [failS, if_neg he] at h; exact h
    have HK := Lib.hid key
    clear key hin
    have fin : ∀ w3, RefAt B w3 p o l most (failS e 6) → w3.cell? ⟨p, 2, none⟩ = some (.int .i64 (failS e 6)) := by
      intro w3 h
      obtain ⟨_, v3, h1, _⟩ := h
      exact (three_cells h1).2.2
    have hf0 : failS e 6 ≠ 0 := by unfold failS; split <;> omega
    by_cases h0 : n < 0
    · go_wp2_with fail
      refine (rfail_any 6 HB.out).mono ?_
      rintro r w3 ⟨rfl, hb3, hm3⟩
      have d2 := fin w3 hb3
      have HD := Lib.hid (And.intro hb3 hm3)
      clear hb3 hm3 fin c0 c1 c2 hout
      generalize failS e 6 = e6 at *
      go_wp2
      go_end0
      exact ⟨rfl, o, HK.out _ HD.out.1, Next.refl _ _, HD.out.2⟩
    · have h5 : (l.length : Int) < n := by omega
      go_wp2_with fail
      refine (rfail_any 6 HB.out).mono ?_
      rintro r w3 ⟨rfl, hb3, hm3⟩
      have d2 := fin w3 hb3
      have HD := Lib.hid (And.intro hb3 hm3)
      clear hb3 hm3 fin c0 c1 c2 hout
      generalize failS e 6 = e6 at *
      go_wp2
      go_end0
      exact ⟨rfl, o, HK.out _ HD.out.1, Next.refl _ _, HD.out.2⟩

theorem rbytes_any {B : Nat} {w : World} {p : Nat} {o : Option Nat} {l : List UInt8} {most e : Int} (h : RefAt B w p o l most e) (hl : l.length ≤ 1099511627776) :
    Calls Try.prog 14 #[bptr p] w fun r w' => ∃ v', r = .returned (.tuple #[v', .int .i64 e]) ∧ w'.ownsRow w.heap.size 5 1 v' (if e = 0 then l else []).length (Lib.byteCells (if e = 0 then l else [])) ∧ Grew w w' := by
  have HB := Lib.hid h
  obtain ⟨hBp, v, h1, h2, h3, h4⟩ := h
  obtain ⟨c0, c1, c2⟩ := three_cells h1
  obtain ⟨va, vc, rfl, hcap, hnil⟩ := row_form h2
  have HX := Lib.hid (BytesAt.of_own h2)
  clear h1 h2 h3 h4
  go_enter Try.func14, Try.ntmps14
  by_cases he : e = 0
  · subst he
    go_wp2_with fail
    refine (copy_any _ _ l HX.out hl).mono ?_
    rintro r w3 ⟨v', rfl, ho, hg⟩
    have HO := Lib.hid (And.intro ho hg)
    clear ho hg
    go_wp2
    go_ret2
    exact ⟨_, rfl, HO.out⟩
  · go_wp2_with fail
    go_quiet (fail)
    go_wp2
    go_ret2
    exact ⟨_, rfl, World.ownsRow_nil _ _ _ _, (Grew.refl w).drewN nq⟩

end Go.Proofs.Ytejaklkageieoaa
