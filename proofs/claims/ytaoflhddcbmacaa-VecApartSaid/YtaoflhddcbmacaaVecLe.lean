/-
  Package le: Load.
-/
import Derived.Test.YtaoflhddcbmacaaBufText
namespace Go.Proofs.Ytaoflhddcbmacaa
open Go Go.ChangeShapes Go.WideShapes Go.ChangeAt Go.RowKit Go.Joins
set_option linter.unusedVariables false
set_option linter.unusedSimpArgs false

/-- The number of bytes, lowest first. -/
def leF : List UInt8 → Int
  | [] => 0
  | c :: r => (c.toNat : Int) + 256 * leF r
theorem leF_snoc (c : UInt8) : ∀ l : List UInt8, leF (l ++ [c]) = leF l + c.toNat * 256 ^ l.length
  | [] => by simp [leF]
  | d :: r => by
    have ih := leF_snoc c r
    simp only [List.cons_append, leF, List.length_cons, ih]
    rw [Int.mul_add, ← Int.mul_assoc, Int.mul_comm 256 (c.toNat : Int), Int.mul_assoc, Int.pow_succ, Int.mul_comm 256 ((256 : Int) ^ r.length)]
    omega
theorem leF_lo : ∀ l : List UInt8, 0 ≤ leF l
  | [] => by simp [leF]
  | d :: r => by have := leF_lo r; simp only [leF]; omega
theorem leF_hi : ∀ l : List UInt8, leF l < 256 ^ l.length
  | [] => by simp [leF]
  | d :: r => by
    have := leF_hi r
    have hd := d.toNat_lt
    simp only [leF, List.length_cons]
    rw [Int.pow_succ]
    omega
theorem leF_take (l : List UInt8) (k : Nat) (h : k < l.length) : leF (l.take (k + 1)) = leF (l.take k) + l[k].toNat * 256 ^ k := by
  rw [List.take_succ_eq_append_getElem h, leF_snoc, List.length_take, Nat.min_eq_left (by omega)]
theorem top_lem (b k : Nat) (hk : k < 8) (hb : b < 256) : b * 256 ^ k + 256 ^ k ≤ 18446744073709551616 := by
  have h1 : (b + 1) * 256 ^ k ≤ 256 * 256 ^ k := Nat.mul_le_mul_right _ hb
  have h2 : 256 * 256 ^ k = 256 ^ (k + 1) := by rw [Nat.pow_succ, Nat.mul_comm]
  have h3 : 256 ^ (k + 1) ≤ 256 ^ 8 := Nat.pow_le_pow_right (by decide) hk
  rw [Nat.add_mul] at h1
  have : (256 : Nat) ^ 8 = 18446744073709551616 := by decide
  omega
theorem or_lem (u : Int) (b k : Nat) (hk : k < 8) (u0 : 0 ≤ u) (hu : u < 256 ^ k) (hb : b < 256) : bits .or .u64 u ((b : Int) * 256 ^ k) = u + b * 256 ^ k := by
  obtain ⟨n, rfl⟩ := Int.eq_ofNat_of_zero_le u0
  have hx : ((b : Int) * 256 ^ k) = ((b * 256 ^ k : Nat) : Int) := by simp
  have hn : n < 256 ^ k := by have : ((n : Nat) : Int) < ((256 ^ k : Nat) : Int) := by simpa using hu
                              exact Int.ofNat_lt.1 this
  have ht := top_lem b k hk hb
  have e : (256 : Nat) ^ k = 2 ^ (8 * k) := by rw [Nat.pow_mul]
  rw [hx]
  unfold bits
  show IntKind.u64.wrap (((BitVec.ofInt 64 (n : Int)) ||| (BitVec.ofInt 64 ((b * 256 ^ k : Nat) : Int))).toNat : Int) = _
  rw [BitVec.ofInt_natCast, BitVec.ofInt_natCast, BitVec.toNat_or, BitVec.toNat_ofNat, BitVec.toNat_ofNat, Nat.mod_eq_of_lt (by omega), Nat.mod_eq_of_lt (by omega), Nat.or_comm]
  rw [show b * 256 ^ k = 2 ^ (8 * k) * b by rw [e, Nat.mul_comm], ← Nat.two_pow_add_eq_or_of_lt (by rw [← e]; exact hn)]
  rw [← e, Nat.mul_comm (256 ^ k) b]
  simp [IntKind.wrap, IntKind.bits, IntKind.signed]
  have : ((b * 256 ^ k + n : Nat) : Int) < 18446744073709551616 := by omega
  simp at this
  rw [Int.emod_eq_of_lt (by have : (0:Int) ≤ ((b * 256 ^ k + n : Nat) : Int) := Int.natCast_nonneg _
                            simpa using this) this]
  omega
theorem shl_lem (b k : Nat) (hk : k < 8) (hb : b < 256) : IntKind.u64.wrap ((b : Int) * 2 ^ (8 * (k : Int)).toNat) = (b : Int) * 256 ^ k := by
  have ht := top_lem b k hk hb
  rw [show (8 * (k : Int)).toNat = 8 * k by omega, Int.pow_mul]
  have : ((b * 256 ^ k : Nat) : Int) < 18446744073709551616 := by have := Nat.pos_of_ne_zero (show (256 : Nat) ^ k ≠ 0 by simp); omega
  simp at this
  simp [IntKind.wrap, IntKind.bits, IntKind.signed]
  exact Int.emod_eq_of_lt (by have : (0:Int) ≤ ((b * 256 ^ k : Nat) : Int) := Int.natCast_nonneg _
                              simpa using this) this
theorem w8_lem (k : Nat) (hk : k < 8) : IntKind.i64.wrap (8 * (k : Int)) = 8 * k := by
  simp [IntKind.wrap, IntKind.bits, IntKind.signed]; omega
theorem wb_lem (b : Nat) (hb : b < 256) : IntKind.u64.wrap (b : Int) = b := by
  simp [IntKind.wrap, IntKind.bits, IntKind.signed]; omega
set_option maxRecDepth 100000 in
set_option maxHeartbeats 1000000 in
theorem load1_any {w : World} (sv : Value) (l : List UInt8) (hb : BytesAt w sv l) (hlen : l.length ≤ 8) (pa : Nat) (hp : w.heap[pa]? = some (.cells #[.int .u64 0] 26)) (hap : ∀ ad n c, sv = .slice (some ad) n c → ad.block ≠ pa) :
    Calls Try.prog 39 #[sv, .pointer (some ⟨pa, 0, none⟩)] w fun r w' => r = .returned (.int .i64 0) ∧ w'.heap[pa]? = some (.cells #[.int .u64 (leF l)] 26) ∧ Moved (fun b => b = pa) w w' := by
  have HB0 := Lib.hid hb
  have HA := Lib.hid hap
  obtain ⟨a, c, rfl, hcell⟩ := hb
  clear hap
  go_enter Try.func39, Try.ntmps39
  go_wp2_with fail
  go_loopw [4, 5, 8] (fun _ _ i wr => ∃ k : Nat, k ≤ l.length ∧ i = .int .i64 k ∧ Hid (wr.heap[pa]? = some (.cells #[.int .u64 (leF (l.take k))] 26) ∧ Moved (fun b => b = pa) w wr)) (fun _ _ i _ => l.length - (intOf i).toNat)
  case atStart => exact ⟨0, Nat.zero_le _, rfl, hp, Moved.refl _ _⟩
  case round =>
    obtain ⟨k, hk, rfl, HW⟩ := hrel
    by_cases hlt : k < l.length
    · obtain ⟨bl, off, rfl, q0⟩ := hcell.2.2 k l[k] (List.getElem?_eq_getElem hlt)
      have d0 := HW.out.2.cell q0 (HA.out ⟨bl, off, none⟩ _ _ rfl)
      have HSN := Lib.hid (leF_take l k hlt)
      have hhi := leF_hi (l.take k)
      have hlo := leF_lo (l.take k)
      have hrow := HW.out.1
      generalize leF (l.take k) = u at *
      generalize l[k] = b at *
      have g0 : wr.cell? ⟨pa, 0, none⟩ = some (.int .u64 u) := by simp [World.cell?, hrow]
      have f0 := row_frozen hrow 0
      have HROW := Lib.hid hrow
      have hk8 : k < 8 := by omega
      have hb : b.toNat < 256 := b.toNat_lt
      rw [List.length_take, Nat.min_eq_left (Nat.le_of_lt hlt)] at hhi
      clear q0 hrow
      go_wp2_with fail
      refine wp_region_last Grew [[], [], [1], [], [3], [2, 4], [0, 5], [6]] [[(14, 1), (15, 2), (16, 3), (17, 4), (18, 5)], [(13, 0), (16, 3), (17, 4), (18, 5), (19, 6)], [(13, 0), (14, 1), (16, 3), (17, 4), (19, 6)], [(13, 0), (14, 1), (15, 2), (18, 5), (19, 6)], [(13, 0), (14, 1), (15, 2), (16, 3), (19, 6)], [(13, 0), (14, 1), (15, 2), (16, 3), (17, 4)], [(13, 0), (14, 1), (15, 2), (16, 3), (17, 4), (18, 5)], [(13, 0), (14, 1), (15, 2), (16, 3), (17, 4), (18, 5), (19, 6)]]
        [Is (.int .u64 u), Is (.int .u8 b.toNat), Is (.int .u64 b.toNat), Is (.int .i64 k), Is (.int .i64 (8 * k : Int)), Is (.int .u64 (b.toNat * 256 ^ k : Int)), Is (.int .u64 (u + b.toNat * 256 ^ k : Int))]
        (by kernel_rfl) Grew.trans Grew.refl (Grew.refl _).drew (by kernel_rfl) ⟨is_st, is_st, is_st, is_st, is_st, is_st, is_st, trivial⟩ rfl ⟨?_, ?_, ?_, ?_, ?_, ?_, ?_, trivial⟩ ?_ rfl
      · intro y w2 hG hD K hK
        have dg0 := hG.cell g0
        simp only [fillL, Act.put, List.setIfInBounds_toArray, List.set_cons_zero, List.set_cons_succ, List.getD_cons_zero, List.getD_cons_succ, Is] at hK ⊢
        refine ite_yes (by rfl) ?_
        go_simp
        exact hK _ _ _ rfl (Grew.refl _) rfl
      · intro y w2 hG hD K hK
        simp only [fillL, Act.put, List.setIfInBounds_toArray, List.set_cons_zero, List.set_cons_succ, List.getD_cons_zero, List.getD_cons_succ, Is] at hK ⊢
        refine ite_yes (by rfl) ?_
        go_simp
        exact hK _ _ _ rfl (Grew.refl _) rfl
      · intro y w2 hG hD K hK
        simp only [depsH, List.getD_cons_zero, List.getD_cons_succ, Is, and_true] at hD
        have h1 := hD
        clear hD
        simp only [fillL, Act.put, List.setIfInBounds_toArray, List.set_cons_zero, List.set_cons_succ, List.getD_cons_zero, List.getD_cons_succ, Is] at hK ⊢
        rw [h1] at hK ⊢
        clear h1
        refine ite_yes (by rfl) ?_
        go_simp
        exact hK _ _ _ rfl (Grew.refl _) (congrArg (Value.int _) (wb_lem b.toNat hb))
      · intro y w2 hG hD K hK
        simp only [fillL, Act.put, List.setIfInBounds_toArray, List.set_cons_zero, List.set_cons_succ, List.getD_cons_zero, List.getD_cons_succ, Is] at hK ⊢
        refine ite_yes (by rfl) ?_
        go_simp
        exact hK _ _ _ rfl (Grew.refl _) rfl
      · intro y w2 hG hD K hK
        simp only [depsH, List.getD_cons_zero, List.getD_cons_succ, Is, and_true] at hD
        have h3 := hD
        clear hD
        simp only [fillL, Act.put, List.setIfInBounds_toArray, List.set_cons_zero, List.set_cons_succ, List.getD_cons_zero, List.getD_cons_succ, Is] at hK ⊢
        rw [h3] at hK ⊢
        clear h3
        refine ite_yes (by rfl) ?_
        go_simp
        exact hK _ _ _ rfl (Grew.refl _) (congrArg (Value.int _) (w8_lem k hk8))
      · intro y w2 hG hD K hK
        simp only [depsH, List.getD_cons_zero, List.getD_cons_succ, Is, and_true] at hD
        have h2 := hD.1
        have h4 := hD.2
        clear hD
        simp only [fillL, Act.put, List.setIfInBounds_toArray, List.set_cons_zero, List.set_cons_succ, List.getD_cons_zero, List.getD_cons_succ, Is] at hK ⊢
        rw [h2, h4] at hK ⊢
        clear h2 h4
        refine ite_yes (by rfl) ?_
        go_simp
        exact hK _ _ _ rfl (Grew.refl _) (congrArg (Value.int _) (shl_lem b.toNat k hk8 hb))
      · intro y w2 hG hD K hK
        simp only [depsH, List.getD_cons_zero, List.getD_cons_succ, Is, and_true] at hD
        have h0 := hD.1
        have h5 := hD.2
        clear hD
        simp only [fillL, Act.put, List.setIfInBounds_toArray, List.set_cons_zero, List.set_cons_succ, List.getD_cons_zero, List.getD_cons_succ, Is] at hK ⊢
        rw [h0, h5] at hK ⊢
        clear h0 h5
        refine ite_yes (by rfl) ?_
        go_simp
        exact hK _ _ _ rfl (Grew.refl _) (congrArg (Value.int _) (or_lem u b.toNat k hk8 hlo hhi hb))
      · intro y w2 hG hF K hK
        simp only [factsH, Is, and_true, Nat.reduceAdd] at hF
        have h0 := hF.1
        have h1 := hF.2.1
        have h2 := hF.2.2.1
        have h3 := hF.2.2.2.1
        have h4 := hF.2.2.2.2.1
        have h5 := hF.2.2.2.2.2.1
        have h6 := hF.2.2.2.2.2.2
        clear hF
        simp only [lastOf]
        simp only [fillL, Act.put, List.setIfInBounds_toArray, List.set_cons_zero, List.set_cons_succ, List.getD_cons_zero, List.getD_cons_succ, Is] at hK ⊢
        rw [h0, h1, h2, h3, h4, h5, h6]
        clear h0 h1 h2 h3 h4 h5 h6
        refine ite_yes (by rfl) ?_
        have dg0 := hG.cell g0
        have hr2 := hG.heap HROW.out
        have df0 := row_frozen hr2 0
        go_simp
        refine hK _ _ ?_
        have HR2 := Lib.hid hr2
        have HG2 := Lib.hid hG
        clear hr2 hG dg0 df0
        go_wp2
        go_roundw
        case rel =>
          refine ⟨k + 1, by omega, by go_num, ?_⟩
          show _ ∧ _
          rw [HSN.out]
          exact ⟨by have := heap_setCell_same w2 pa 0 _ _ (.int .u64 (u + b.toNat * 256 ^ k)) HR2.out; simpa using this, Moved.setCell (p := ⟨pa, 0, none⟩) (HW.out.2.trans' (Moved.of_grew HG2.out)) (fun _ => rfl) _⟩
        case measure => simp [intOf]; omega
    · have e : k = l.length := by omega
      have hw := HW.out
      rw [e, List.take_length] at hw
      have HF := Lib.hid hw
      clear hw HW
      go_wp2
      go_ret
      exact ⟨rfl, HF.out⟩
end Go.Proofs.Ytaoflhddcbmacaa
