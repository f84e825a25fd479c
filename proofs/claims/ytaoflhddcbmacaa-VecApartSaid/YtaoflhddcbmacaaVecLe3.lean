/-
  Package le: LoadInt.
-/
import Derived.Test.YtaoflhddcbmacaaVecLe2
namespace Go.Proofs.Ytaoflhddcbmacaa
open Go Go.ChangeShapes Go.WideShapes Go.ChangeAt Go.RowKit Go.Joins
set_option linter.unusedVariables false
set_option linter.unusedSimpArgs false

theorem loadF_ok {l : List UInt8} {at_ x : Int} (h : (loadF l at_ x).2 = 0) : isW x = true ∧ 0 ≤ (loadF l at_ x).1 ∧ (loadF l at_ x).1 < 256 ^ x.toNat := by
  revert h
  unfold loadF
  split
  · rename_i hx
    split
    · simp
    · intro _
      refine ⟨hx, leF_lo _, ?_⟩
      refine Int.lt_of_lt_of_le (leF_hi _) ?_
      have h1 : ((l.drop at_.toNat).take x.toNat).length ≤ x.toNat := by simp; omega
      have h2 := Nat.pow_le_pow_right (n := 256) (by decide) h1
      have : ((256 ^ ((l.drop at_.toNat).take x.toNat).length : Nat) : Int) ≤ ((256 ^ x.toNat : Nat) : Int) := Int.ofNat_le.2 h2
      simpa using this
  · simp
/-- The signed reading of a number of x bytes. -/
def sgnF (u x : Int) : Int := if u < 2 ^ (8 * x.toNat - 1) then u else u - 2 ^ (8 * x.toNat)
def loadIntF (l : List UInt8) (at_ x : Int) : Int × Int := if (loadF l at_ x).2 = 0 then (sgnF (loadF l at_ x).1 x, 0) else (0, (loadF l at_ x).2)
set_option maxRecDepth 100000 in
set_option maxHeartbeats 1000000 in
theorem loadInt_any {w : World} (sv : Value) (l : List UInt8) (hb : BytesAt w sv l) (hlen : l.length ≤ 1073741824) (at_ x : Int) (ha : -4611686018427387904 ≤ at_ ∧ at_ ≤ 4611686018427387904) (hap : ∀ ad n c, sv = .slice (some ad) n c → ad.block < w.heap.size) :
    Calls Try.prog 20 #[sv, .int .i64 at_, .int .i64 x] w fun r w' => r = .returned (.tuple #[.int .i64 (loadIntF l at_ x).1, .int .i64 (loadIntF l at_ x).2]) ∧ Grew w w' := by
  have HL : Hid (Calls Try.prog 19 #[sv, .int .i64 at_, .int .i64 x] w fun r w' => r = .returned (.tuple #[.int .u64 (loadF l at_ x).1, .int .i64 (loadF l at_ x).2]) ∧ Grew w w') := load_any sv l hb hlen at_ x ha hap
  have hok := loadF_ok (l := l) (at_ := at_) (x := x)
  unfold loadIntF
  clear hb hap
  generalize loadF l at_ x = q at *
  obtain ⟨u, e⟩ := q
  simp only at hok ⊢
  by_cases he : e = 0
  · subst he
    obtain ⟨hx, u0, u1⟩ := hok rfl
    simp only [if_true]
    rcases isW_cases hx with rfl | rfl | rfl | rfl
    all_goals
      simp at u1
      clear hx
      go_enter Try.func20, Try.ntmps20
      go_wp2_with fail
      refine HL.out.mono ?_
      rintro r w2 ⟨rfl, hg⟩
      have HG := Lib.hid hg
      clear hg
      go_wp2
      go_ret2
      refine ⟨?_, HG.out⟩
      congr 2
      simp [sgnF, IntKind.wrap, IntKind.bits, IntKind.signed]
      unfold wrap64
      split <;> omega
  · rw [if_neg he]
    go_enter Try.func20, Try.ntmps20
    go_wp2_with fail
    refine HL.out.mono ?_
    rintro r w2 ⟨rfl, hg⟩
    have HG := Lib.hid hg
    clear hg
    go_wp2
    go_ret2
    exact ⟨rfl, HG.out⟩
end Go.Proofs.Ytaoflhddcbmacaa
