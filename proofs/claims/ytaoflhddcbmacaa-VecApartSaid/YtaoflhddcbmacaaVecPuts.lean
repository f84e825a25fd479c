/-
  Vectors: the law's puts.
-/
import Derived.Test.YtaoflhddcbmacaaVecVals
import Derived.Test.YtaoflhddcbmacaaVec5
import Derived.Test.YtaoflhddcbmacaaVec6
import Derived.Test.YtaoflhddcbmacaaVec7
namespace Go.Proofs.Ytaoflhddcbmacaa
open Go Go.ChangeShapes Go.WideShapes Go.ChangeAt Go.RowKit Go.Joins
open Go.Proofs.Ytaoflhddcbmacaa.Ft (V3 vV okV ValsAt inlineB legalB packF codeF typedF allF)
set_option linter.unusedVariables false
set_option linter.unusedSimpArgs false

/-- Put answers q and leaves s' where it finds s, whatever the world. -/
def Puts (elem many : Int) (lv : Value) (l : List V3) (most : Int) (s : St) (q : V3 × Int) (s' : St) : Prop :=
  ∀ (B : Nat) (w : World) (p : Nat) (o : Option Nat), BufAt B w p o s.1 most s.2 → B ≤ w.heap.size → ValsAt w lv l → (∀ ad n c, lv = .slice (some ad) n c → ad.block < w.heap.size ∧ ¬ Own2 p o ad.block) →
    Calls Try.prog 10 #[bptr p, .int .i64 elem, .int .i64 many, lv] w fun r w' => r = .returned (putV q) ∧ TurnB B w w' p o most s'
theorem bytesS_one (x : ByteArray) : bytesS [x] = x.data.toList := by simp [bytesS]
set_option maxRecDepth 100000 in
set_option maxHeartbeats 1000000 in
theorem puts_true (ahead want : ByteArray) (elem many : Int) (v : V3) (e : Int) (lv : Value) (l : List V3) (w : World) (hv : ValsAt w lv l) (hap : ∀ ad n c, lv = .slice (some ad) n c → ad.block < w.heap.size)
    (hs : ahead.size ≤ 900) (hs2 : (ahead ++ want).size ≤ 1000) (hput : Puts elem many lv l 1000 (ahead.data.toList, 0) (v, e) ((ahead ++ want).data.toList, 0)) :
    Calls Try.prog 30 #[.string ahead, .int .i64 elem, .int .i64 many, lv, .string want, vV v, .int .i64 e] w fun r w' => r = .returned (.bool true) ∧ Grew w w' := by
  have HP := Lib.hid hput
  have HV := Lib.hid hv
  have HA := Lib.hid hap
  have HS := Lib.hid hs
  have HS2 := Lib.hid hs2
  obtain ⟨v0, v1, v2⟩ := v
  obtain ⟨la, lc, rfl, hcell⟩ := hv
  clear hcell
  show Calls Try.prog 30 #[.string ahead, .int .i64 elem, .int .i64 many, .slice la l.length lc, .string want, .agg #[.int .i64 v0, .int .i64 v1, .int .u64 v2], .int .i64 e] w _
  clear hput hap hs hs2
  go_enter Try.func30, Try.ntmps30
  go_wp2_with fail
  have hg0 : Grew w (w.alloc (.cells #[.int .i64 v0, .int .i64 v1, .int .u64 v2] 28)) := (Grew.refl w).alloc _
  have hr0 := heap_alloc_new w (.cells #[.int .i64 v0, .int .i64 v1, .int .u64 v2] 28)
  have hz0 : (w.alloc (.cells #[.int .i64 v0, .int .i64 v1, .int .u64 v2] 28)).heap.size = w.heap.size + 1 := by simp
  have HZ : Hid (w.heap.size < (w.alloc (.cells #[.int .i64 v0, .int .i64 v1, .int .u64 v2] 28)).heap.size) := by show _ < _; omega
  generalize (w.alloc (.cells #[.int .i64 v0, .int .i64 v1, .int .u64 v2] 28)) = W at *
  have HR := Lib.hid hr0
  have HGW := Lib.hid hg0
  refine (newL (w0 := W) 1000 (Below.refl _ _)).mono ?_
  rintro r w1 ⟨rfl, hl, hg, hlt⟩
  rw [hz0] at hl
  have HL1 : Hid (Live W w1 (w.heap.size + 1) 1000 ([], 0)) := hl
  clear hl hg hr0 hlt hg0
  go_wp2_with fail
  refine (textL1 ahead _ rfl (by have := HS.out; rw [← bytesS_length, bytesS_one]; simp; omega) HL1.out).mono ?_
  rintro r w2 ⟨rfl, hl⟩
  rw [bytesS_one, put_fit 1000 [] ahead.data.toList (by have := HS.out; simp; omega), List.nil_append] at hl
  have HL2 := Lib.hid hl
  clear hl HL1
  go_wp2_with fail
  obtain ⟨o, hb, hbel, h3, h4⟩ := HL2.out
  refine (HP.out W.heap.size w2 (w.heap.size + 1) o hb hbel.size ((HV.out.grew HGW.out).grew hbel) ?_).mono ?_
  · intro ad n c e
    have := HA.out ad n c e
    have hz := HZ.out
    refine ⟨Nat.lt_of_lt_of_le this (Nat.le_trans (Nat.le_of_lt hz) hbel.size), fun hq => ?_⟩
    have := hb.ge _ hq
    omega
  rintro r w3 ⟨rfl, ht⟩
  rw [show putV ((v0, v1, v2), e) = .tuple #[.agg #[.int .i64 v0, .int .i64 v1, .int .u64 v2], .int .i64 e] from rfl]
  have HL3 := Lib.hid (Live.turn (s' := ((ahead ++ want).data.toList, 0)) hb hbel ht (by have := HS2.out; simp; simp at this; omega) h4)
  clear ht hb hbel h3 h4 HL2
  go_wp2_with fail
  have hgr := (Grew.refl w3).alloc (.cells #[.int .i64 v0, .int .i64 v1, .int .u64 v2] 28)
  have hr3 := heap_alloc_new w3 (.cells #[.int .i64 v0, .int .i64 v1, .int .u64 v2] 28)
  have ho : outS ((ahead ++ want).data.toList, (0 : Int)) = (ahead ++ want).data.toList := rfl
  refine (bytesL (HL3.out.grew hgr)).mono ?_
  rintro r w4 ⟨vb, rfl, hvb, _, hg4⟩
  rw [ho] at hvb
  have hstr : (convert 39 9 vb).run Try.prog w4 = .ok (.string (ahead ++ want)) w4 := (str_of_bytes hvb).trans (by rw [Array.toArray_toList])
  have hrowA := hg4.heap hr3
  have hrowB := hg4.heap (hgr.heap (Grew.heap (HL3.out.below) HR.out))
  have c0 := row_cell hrowA 0 _ rfl
  have c1 := row_cell hrowA 1 _ rfl
  have c2 := row_cell hrowA 2 _ rfl
  have d0 := row_cell hrowB 0 _ rfl
  have d1 := row_cell hrowB 1 _ rfl
  have d2 := row_cell hrowB 2 _ rfl
  have HG : Hid (Grew w w4) := ((HGW.out.trans HL3.out.below).trans hgr).trans hg4
  clear hvb hrowA hrowB hr3 hgr hg4 ho HL3
  have hsum : ahead.size + want.size ≤ 9223372036854775807 := by have := HS2.out; simp at this; omega
  go_wp2
  go_ret
  exact ⟨rfl, HG.out⟩
end Go.Proofs.Ytaoflhddcbmacaa
