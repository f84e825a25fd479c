/-
  Texts of the proof, part 2 of 5.
-/
import Derived.Test.YtajpbclcfjljnaaPA
import Derived.Test.YtajpbclcfjljnaaProg
import Derived.Shelf.Strconv.Itoa0
import Derived.BigQuiet
import Derived.Lib.Hide
import Derived.Deep.QuietTactic
import Derived.RangeFuncNested
import Derived.RangeFuncBound
import Derived.RangeFuncCalls
import Derived.RangeFuncLeaves
import Derived.Shelf.Abstract
import Derived.Shelf.RegionOpen
import Derived.WalkKit
import Derived.OwnWalkIn
import Derived.TacticsInMore
import Derived.LoopNIn
import Derived.LoopIn
import Derived.WideMake
import Derived.MapKept
import Derived.Laws.StructEq
import Derived.Laws.EntriesVeiled

/-
  The calls that the laws make: does, own, fine; a live buffer, alone or beside another.
-/
namespace Go.Proofs.Ytajpbclcfjljnaa
open Go Go.ChangeShapes Go.WideShapes Go.ChangeAt Go.RowKit Go.Joins
set_option linter.unusedVariables false
set_option linter.unusedSimpArgs false

structure DoV where
  kind : Int
  w : Int
  n : Int
  u : Int
  s : ByteArray
abbrev DoV.cells (d : DoV) : List Value := [.int .i64 d.kind, .int .i64 d.w, .int .i64 d.n, .int .u64 d.u, .string d.s]
abbrev doV (d : DoV) : Value := .agg #[.int .i64 d.kind, .int .i64 d.w, .int .i64 d.n, .int .u64 d.u, .string d.s]
def DoV.ok (d : DoV) : Prop := 0 ≤ d.u ∧ d.u ≤ 18446744073709551615 ∧ d.s.size ≤ 9223372036854775807
def short40 (s : ByteArray) : ByteArray := s.extract 0 (min s.size 40)
theorem short40_size (s : ByteArray) : (short40 s).size ≤ 40 := by unfold short40; rw [ByteArray.size_extract]; omega
def letterX : ByteArray := ⟨#[120]⟩
def doS (most : Int) (d : DoV) (s : St) : St :=
  if d.kind % 5 = 0 then alignS most d.w s else if d.kind % 5 = 1 then numS most d.w d.u s else if d.kind % 5 = 2 then putS most (bytesS [short40 d.s]) s
  else if d.kind % 5 = 3 then cutS d.n s else putS most (bytesS [short40 d.s, letterX, short40 d.s]) s
theorem strs_new (w : World) (ss : List ByteArray) (t : TypeId) : StrsAt (w.alloc (.cells (ss.map Value.string).toArray t)) (.slice (some ⟨w.heap.size, 0, none⟩) ss.length ss.length) ss := by
  refine ⟨_, _, rfl, fun i s hs => ⟨_, _, rfl, ?_⟩⟩
  rw [cell_of_row _ _ _ _ _ _ (heap_alloc_new _ _), Nat.zero_add]
  simp [hs]
theorem BufAt.lt {B : Nat} {w : World} {p : Nat} {o : Option Nat} {l : List UInt8} {most e : Int} (h : BufAt B w p o l most e) : ∀ k, Own2 p o k → k < w.heap.size := by
  obtain ⟨_, v, h1, h2, h3, _⟩ := h
  intro k hk
  rcases hk with rfl | hk
  · exact (Array.getElem?_eq_some_iff.1 h1).1
  · exact (World.ownsRow.lt h2 k (by rw [h3, ← hk])).2
theorem BufAt.ge {B : Nat} {w : World} {p : Nat} {o : Option Nat} {l : List UInt8} {most e : Int} (h : BufAt B w p o l most e) : ∀ k, Own2 p o k → B ≤ k := by
  obtain ⟨h0, v, h1, h2, h3, _⟩ := h
  intro k hk
  rcases hk with rfl | hk
  · exact h0
  · exact (World.ownsRow.lt h2 k (by rw [h3, ← hk])).1
theorem hs3 {a : ByteArray} (h : a.size ≤ 40) : sizeS [a, letterX, a] ≤ 1073741824 := by
  have e : letterX.size = 1 := rfl
  simp [sizeS, e]; omega
/-- Text with a slice that was just built. -/
theorem textNew {B : Nat} {w : World} {p : Nat} {o : Option Nat} {most : Int} (s : St) (ss : List ByteArray) (h : BufAt B w p o s.1 most s.2) (hB : B ≤ w.heap.size) (hl : (s.1.length : Int) ≤ most) (hm1 : most ≤ 1048576)
    (hsl : ss.length ≤ 1048576) (hss : sizeS ss ≤ 1073741824) :
    Calls Try.prog 18 #[bptr p, .slice (some ⟨w.heap.size, 0, none⟩) ss.length ss.length] (w.alloc (.cells (ss.map Value.string).toArray 9)) fun r w' => r = .returned (.tuple #[]) ∧ TurnB B w w' p o most (putS most (bytesS ss) s) := by
  have hg := (Grew.refl w).alloc (.cells (ss.map Value.string).toArray 9)
  refine (text_any s _ ss (h.grew hg) (Nat.le_trans hB hg.size) hl hm1 (strs_new w ss _) hsl hss ?_).mono fun r w' ⟨hr, ht⟩ => ⟨hr, ht.after hg⟩
  intro ad n c he hk
  injection he with e1 _ _
  injection e1 with e1
  subst e1
  exact absurd (h.lt _ hk) (Nat.lt_irrefl _)
theorem textNew1 {B : Nat} {w : World} {p : Nat} {o : Option Nat} {most : Int} (s : St) (x : ByteArray) (k : Nat) (hk : k = w.heap.size) (h : BufAt B w p o s.1 most s.2) (hB : B ≤ w.heap.size) (hl : (s.1.length : Int) ≤ most) (hm1 : most ≤ 1048576)
    (hss : sizeS [x] ≤ 1073741824) :
    Calls Try.prog 18 #[bptr p, .slice (some ⟨k, 0, none⟩) 1 1] (w.alloc (.cells #[.string x] 9)) fun r w' => r = .returned (.tuple #[]) ∧ TurnB B w w' p o most (putS most (bytesS [x]) s) := by
  subst hk
  exact textNew s [x] h hB hl hm1 (by simp) hss
theorem textNew2 {B : Nat} {w : World} {p : Nat} {o : Option Nat} {most : Int} (s : St) (x y : ByteArray) (k : Nat) (hk : k = w.heap.size) (h : BufAt B w p o s.1 most s.2) (hB : B ≤ w.heap.size) (hl : (s.1.length : Int) ≤ most) (hm1 : most ≤ 1048576)
    (hss : sizeS [x, y] ≤ 1073741824) :
    Calls Try.prog 18 #[bptr p, .slice (some ⟨k, 0, none⟩) 2 2] (w.alloc (.cells #[.string x, .string y] 9)) fun r w' => r = .returned (.tuple #[]) ∧ TurnB B w w' p o most (putS most (bytesS [x, y]) s) := by
  subst hk
  exact textNew s [x, y] h hB hl hm1 (by simp) hss
theorem textNew3 {B : Nat} {w : World} {p : Nat} {o : Option Nat} {most : Int} (s : St) (x y z : ByteArray) (k : Nat) (hk : k = w.heap.size) (h : BufAt B w p o s.1 most s.2) (hB : B ≤ w.heap.size) (hl : (s.1.length : Int) ≤ most) (hm1 : most ≤ 1048576)
    (hss : sizeS [x, y, z] ≤ 1073741824) :
    Calls Try.prog 18 #[bptr p, .slice (some ⟨k, 0, none⟩) 3 3] (w.alloc (.cells #[.string x, .string y, .string z] 9)) fun r w' => r = .returned (.tuple #[]) ∧ TurnB B w w' p o most (putS most (bytesS [x, y, z]) s) := by
  subst hk
  exact textNew s [x, y, z] h hB hl hm1 (by simp) hss
theorem doS_le {most : Int} {d : DoV} {s : St} (h : (s.1.length : Int) ≤ most) : ((doS most d s).1.length : Int) ≤ most := by
  unfold doS
  repeat' split
  · exact alignS_le h
  · exact numS_le h
  · exact putS_le h
  · exact cutS_le h
  · exact putS_le h

/-- A buffer that came to be behind w0, and nothing that lay at w0 has turned. -/
def Live (w0 w : World) (p : Nat) (most : Int) (s : St) : Prop := ∃ o, BufAt w0.heap.size w p o s.1 most s.2 ∧ Below w0.heap.size w0 w ∧ (s.1.length : Int) ≤ most ∧ most ≤ 1048576
theorem Live.grew {w0 w w' : World} {p : Nat} {most : Int} {s : St} (h : Live w0 w p most s) (hg : Grew w w') : Live w0 w' p most s := by
  obtain ⟨o, h1, h2, h3, h4⟩ := h
  exact ⟨o, h1.grew hg, Below.trans h2 (Below.mono hg h2.size), h3, h4⟩
theorem Live.turn {w0 w w' : World} {p : Nat} {o : Option Nat} {most : Int} {s s' : St} (h : BufAt w0.heap.size w p o s.1 most s.2) (hb : Below w0.heap.size w0 w) (ht : TurnB w0.heap.size w w' p o most s') (hl : (s'.1.length : Int) ≤ most) (hm : most ≤ 1048576) : Live w0 w' p most s' := by
  obtain ⟨o', h1, h2, h3⟩ := ht
  exact ⟨o', h1, Below.trans hb (h3.below hb.size (h.ge)), hl, hm⟩
theorem Live.new {w0 w w' : World} {p : Nat} {most : Int} (hb : Below w0.heap.size w0 w) (h : BufAt w.heap.size w' p none [] most 0) (hg : Grew w w') (hm0 : 0 ≤ most) (hm : most ≤ 1048576) : Live w0 w' p most ([], 0) := by
  obtain ⟨h1, v, h2, h3, h4, h5⟩ := h
  exact ⟨none, ⟨Nat.le_trans hb.size h1, v, h2, own_base h3 hb.size, h4, h5⟩, Below.trans hb (Below.mono hg hb.size), by simpa using hm0, hm⟩
section
variable {w0 w : World} {p : Nat} {most : Int} {s : St}
theorem alignL (x : Int) (h : Live w0 w p most s) : Calls Try.prog 29 #[bptr p, .int .i64 x] w fun r w' => r = .returned (.tuple #[]) ∧ Live w0 w' p most (alignS most x s) := by
  obtain ⟨o, h1, h2, h3, h4⟩ := h
  exact (align_any s x h1 h2.size h3 h4).mono fun r w' ⟨hr, ht⟩ => ⟨hr, Live.turn h1 h2 ht (alignS_le h3) h4⟩
theorem numL (x u : Int) (h0 : 0 ≤ u) (hu : u ≤ 18446744073709551615) (h : Live w0 w p most s) : Calls Try.prog 31 #[bptr p, .int .i64 x, .int .u64 u] w fun r w' => r = .returned (.tuple #[]) ∧ Live w0 w' p most (numS most x u s) := by
  obtain ⟨o, h1, h2, h3, h4⟩ := h
  exact (num_any s x u h1 h2.size h3 h4 h0 hu).mono fun r w' ⟨hr, ht⟩ => ⟨hr, Live.turn h1 h2 ht (numS_le h3) h4⟩
theorem textL1 (x : ByteArray) (k : Nat) (hk : k = w.heap.size) (hss : sizeS [x] ≤ 1073741824) (h : Live w0 w p most s) : Calls Try.prog 18 #[bptr p, .slice (some ⟨k, 0, none⟩) 1 1] (w.alloc (.cells #[.string x] 9)) fun r w' => r = .returned (.tuple #[]) ∧ Live w0 w' p most (putS most (bytesS [x]) s) := by
  obtain ⟨o, h1, h2, h3, h4⟩ := h
  exact (textNew1 s x k hk h1 h2.size h3 h4 hss).mono fun r w' ⟨hr, ht⟩ => ⟨hr, Live.turn h1 h2 ht (putS_le h3) h4⟩
theorem textL2 (x y : ByteArray) (k : Nat) (hk : k = w.heap.size) (hss : sizeS [x, y] ≤ 1073741824) (h : Live w0 w p most s) : Calls Try.prog 18 #[bptr p, .slice (some ⟨k, 0, none⟩) 2 2] (w.alloc (.cells #[.string x, .string y] 9)) fun r w' => r = .returned (.tuple #[]) ∧ Live w0 w' p most (putS most (bytesS [x, y]) s) := by
  obtain ⟨o, h1, h2, h3, h4⟩ := h
  exact (textNew2 s x y k hk h1 h2.size h3 h4 hss).mono fun r w' ⟨hr, ht⟩ => ⟨hr, Live.turn h1 h2 ht (putS_le h3) h4⟩
theorem textL (ss : List ByteArray) (hsl : ss.length ≤ 1048576) (hss : sizeS ss ≤ 1073741824) (h : Live w0 w p most s) : Calls Try.prog 18 #[bptr p, .slice (some ⟨w.heap.size, 0, none⟩) ss.length ss.length] (w.alloc (.cells (ss.map Value.string).toArray 9)) fun r w' => r = .returned (.tuple #[]) ∧ Live w0 w' p most (putS most (bytesS ss) s) := by
  obtain ⟨o, h1, h2, h3, h4⟩ := h
  exact (textNew s ss h1 h2.size h3 h4 hsl hss).mono fun r w' ⟨hr, ht⟩ => ⟨hr, Live.turn h1 h2 ht (putS_le h3) h4⟩
theorem lenL (h : Live w0 w p most s) : Calls Try.prog 28 #[bptr p] w fun r w' => r = .returned (.int .i64 s.1.length) ∧ w' = w := by
  obtain ⟨o, h1, h2, h3, h4⟩ := h
  exact len_any h1
theorem errL (h : Live w0 w p most s) : Calls Try.prog 25 #[bptr p] w fun r w' => r = .returned (.int .i64 s.2) ∧ w' = w := by
  obtain ⟨o, h1, h2, h3, h4⟩ := h
  exact err_any h1
/-- What Bytes gives. -/
def outS (s : St) : List UInt8 := if s.2 = 0 then s.1 else []
theorem bytesB {B : Nat} {o : Option Nat} (h : BufAt B w p o s.1 most s.2) (h3 : (s.1.length : Int) ≤ most) (h4 : most ≤ 1048576) : Calls Try.prog 13 #[bptr p] w fun r w' => ∃ v', r = .returned (.tuple #[v', .int .i64 s.2]) ∧ BytesAt w' v' (outS s) ∧ w'.ownsRow w.heap.size 5 1 v' (outS s).length (Lib.byteCells (outS s)) ∧ Grew w w' :=
  (bytes_any h (by omega)).mono fun r w' ⟨v', hr, ho, hg⟩ => ⟨v', hr, BytesAt.of_own ho, ho, hg⟩
theorem bytesL (h : Live w0 w p most s) : Calls Try.prog 13 #[bptr p] w fun r w' => ∃ v', r = .returned (.tuple #[v', .int .i64 s.2]) ∧ BytesAt w' v' (outS s) ∧ w'.ownsRow w.heap.size 5 1 v' (outS s).length (Lib.byteCells (outS s)) ∧ Grew w w' := by
  obtain ⟨o, h1, h2, h3, h4⟩ := h
  exact bytesB h1 h3 h4
theorem newL (m : Int) (hb : Below w0.heap.size w0 w) : Calls Try.prog 17 #[.int .i64 m] w fun r w' => r = .returned (bptr w.heap.size) ∧ Live w0 w' w.heap.size (roomOf m) ([], 0) ∧ Grew w w' ∧ w.heap.size < w'.heap.size :=
  (new_any m w).mono fun r w' ⟨hr, h1, h2, h3⟩ => ⟨hr, Live.new hb h1 h2 (by unfold roomOf; omega) (by unfold roomOf; omega), h2, h3⟩
theorem Live.below (h : Live w0 w p most s) : Below w0.heap.size w0 w := h.choose_spec.2.1
end
end Go.Proofs.Ytajpbclcfjljnaa

/-
  Package le: Load.
-/
namespace Go.Proofs.Ytajpbclcfjljnaa
open Go Go.ChangeShapes Go.WideShapes Go.ChangeAt Go.RowKit Go.Joins
set_option linter.unusedVariables false
set_option linter.unusedSimpArgs false

/-- The number of bytes, lowest first. -/
def leF : List UInt8 → Int
  | [] => 0
  | c :: r => (c.toNat : Int) + 256 * leF r
theorem leF_snoc (c : UInt8) : ∀ l : List UInt8, leF (l ++ [c]) = leF l + c.toNat * 256 ^ l.length
  | [] => by simp [leF]
  | d :: r => by
    have ih := leF_snoc c r
    simp only [List.cons_append, leF, List.length_cons, ih]
    rw [Int.mul_add, ← Int.mul_assoc, Int.mul_comm 256 (c.toNat : Int), Int.mul_assoc, Int.pow_succ, Int.mul_comm 256 ((256 : Int) ^ r.length)]
    omega
theorem leF_lo : ∀ l : List UInt8, 0 ≤ leF l
  | [] => by simp [leF]
  | d :: r => by have := leF_lo r; simp only [leF]; omega
theorem leF_hi : ∀ l : List UInt8, leF l < 256 ^ l.length
  | [] => by simp [leF]
  | d :: r => by
    have := leF_hi r
    have hd := d.toNat_lt
    simp only [leF, List.length_cons]
    rw [Int.pow_succ]
    omega
theorem leF_take (l : List UInt8) (k : Nat) (h : k < l.length) : leF (l.take (k + 1)) = leF (l.take k) + l[k].toNat * 256 ^ k := by
  rw [List.take_succ_eq_append_getElem h, leF_snoc, List.length_take, Nat.min_eq_left (by omega)]
theorem top_lem (b k : Nat) (hk : k < 8) (hb : b < 256) : b * 256 ^ k + 256 ^ k ≤ 18446744073709551616 := by
  have h1 : (b + 1) * 256 ^ k ≤ 256 * 256 ^ k := Nat.mul_le_mul_right _ hb
  have h2 : 256 * 256 ^ k = 256 ^ (k + 1) := by rw [Nat.pow_succ, Nat.mul_comm]
  have h3 : 256 ^ (k + 1) ≤ 256 ^ 8 := Nat.pow_le_pow_right (by decide) hk
  rw [Nat.add_mul] at h1
  have : (256 : Nat) ^ 8 = 18446744073709551616 := by decide
  omega
theorem or_lem (u : Int) (b k : Nat) (hk : k < 8) (u0 : 0 ≤ u) (hu : u < 256 ^ k) (hb : b < 256) : bits .or .u64 u ((b : Int) * 256 ^ k) = u + b * 256 ^ k := by
  obtain ⟨n, rfl⟩ := Int.eq_ofNat_of_zero_le u0
  have hx : ((b : Int) * 256 ^ k) = ((b * 256 ^ k : Nat) : Int) := by simp
  have hn : n < 256 ^ k := by have : ((n : Nat) : Int) < ((256 ^ k : Nat) : Int) := by simpa using hu
                              exact Int.ofNat_lt.1 this
  have ht := top_lem b k hk hb
  have e : (256 : Nat) ^ k = 2 ^ (8 * k) := by rw [Nat.pow_mul]
  rw [hx]
  unfold bits
  show IntKind.u64.wrap (((BitVec.ofInt 64 (n : Int)) ||| (BitVec.ofInt 64 ((b * 256 ^ k : Nat) : Int))).toNat : Int) = _
  rw [BitVec.ofInt_natCast, BitVec.ofInt_natCast, BitVec.toNat_or, BitVec.toNat_ofNat, BitVec.toNat_ofNat, Nat.mod_eq_of_lt (by omega), Nat.mod_eq_of_lt (by omega), Nat.or_comm]
  rw [show b * 256 ^ k = 2 ^ (8 * k) * b by rw [e, Nat.mul_comm], ← Nat.two_pow_add_eq_or_of_lt (by rw [← e]; exact hn)]
  rw [← e, Nat.mul_comm (256 ^ k) b]
  simp [IntKind.wrap, IntKind.bits, IntKind.signed]
  have : ((b * 256 ^ k + n : Nat) : Int) < 18446744073709551616 := by omega
  simp at this
  rw [Int.emod_eq_of_lt (by have : (0:Int) ≤ ((b * 256 ^ k + n : Nat) : Int) := Int.natCast_nonneg _
                            simpa using this) this]
  omega
theorem shl_lem (b k : Nat) (hk : k < 8) (hb : b < 256) : IntKind.u64.wrap ((b : Int) * 2 ^ (8 * (k : Int)).toNat) = (b : Int) * 256 ^ k := by
  have ht := top_lem b k hk hb
  rw [show (8 * (k : Int)).toNat = 8 * k by omega, Int.pow_mul]
  have : ((b * 256 ^ k : Nat) : Int) < 18446744073709551616 := by have := Nat.pos_of_ne_zero (show (256 : Nat) ^ k ≠ 0 by simp); omega
  simp at this
  simp [IntKind.wrap, IntKind.bits, IntKind.signed]
  exact Int.emod_eq_of_lt (by have : (0:Int) ≤ ((b * 256 ^ k : Nat) : Int) := Int.natCast_nonneg _
                              simpa using this) this
theorem w8_lem (k : Nat) (hk : k < 8) : IntKind.i64.wrap (8 * (k : Int)) = 8 * k := by
  simp [IntKind.wrap, IntKind.bits, IntKind.signed]; omega
theorem wb_lem (b : Nat) (hb : b < 256) : IntKind.u64.wrap (b : Int) = b := by
  simp [IntKind.wrap, IntKind.bits, IntKind.signed]; omega
set_option maxRecDepth 100000 in
set_option maxHeartbeats 1000000 in
theorem load1_any {w : World} (sv : Value) (l : List UInt8) (hb : BytesAt w sv l) (hlen : l.length ≤ 8) (pa : Nat) (hp : w.heap[pa]? = some (.cells #[.int .u64 0] 28)) (hap : ∀ ad n c, sv = .slice (some ad) n c → ad.block ≠ pa) :
    Calls Try.prog 42 #[sv, .pointer (some ⟨pa, 0, none⟩)] w fun r w' => r = .returned (.int .i64 0) ∧ w'.heap[pa]? = some (.cells #[.int .u64 (leF l)] 28) ∧ Moved (fun b => b = pa) w w' := by
  have HB0 := Lib.hid hb
  have HA := Lib.hid hap
  obtain ⟨a, c, rfl, hcell⟩ := hb
  clear hap
  go_enter Try.func42, Try.ntmps42
  go_wp2_with fail
  go_loopw [4, 5, 8] (fun _ _ i wr => ∃ k : Nat, k ≤ l.length ∧ i = .int .i64 k ∧ Hid (wr.heap[pa]? = some (.cells #[.int .u64 (leF (l.take k))] 28) ∧ Moved (fun b => b = pa) w wr)) (fun _ _ i _ => l.length - (intOf i).toNat)
  case atStart => exact ⟨0, Nat.zero_le _, rfl, hp, Moved.refl _ _⟩
  case round =>
    obtain ⟨k, hk, rfl, HW⟩ := hrel
    by_cases hlt : k < l.length
    · obtain ⟨bl, off, rfl, q0⟩ := hcell.2.2 k l[k] (List.getElem?_eq_getElem hlt)
      have d0 := HW.out.2.cell q0 (HA.out ⟨bl, off, none⟩ _ _ rfl)
      have HSN := Lib.hid (leF_take l k hlt)
      have hhi := leF_hi (l.take k)
      have hlo := leF_lo (l.take k)
      have hrow := HW.out.1
      generalize leF (l.take k) = u at *
      generalize l[k] = b at *
      have g0 : wr.cell? ⟨pa, 0, none⟩ = some (.int .u64 u) := by simp [World.cell?, hrow]
      have f0 := row_frozen hrow 0
      have HROW := Lib.hid hrow
      have hk8 : k < 8 := by omega
      have hb : b.toNat < 256 := b.toNat_lt
      rw [List.length_take, Nat.min_eq_left (Nat.le_of_lt hlt)] at hhi
      clear q0 hrow
      go_wp2_with fail
      refine wp_region_last Grew [[], [], [1], [], [3], [2, 4], [0, 5], [6]] [[(14, 1), (15, 2), (16, 3), (17, 4), (18, 5)], [(13, 0), (16, 3), (17, 4), (18, 5), (19, 6)], [(13, 0), (14, 1), (16, 3), (17, 4), (19, 6)], [(13, 0), (14, 1), (15, 2), (18, 5), (19, 6)], [(13, 0), (14, 1), (15, 2), (16, 3), (19, 6)], [(13, 0), (14, 1), (15, 2), (16, 3), (17, 4)], [(13, 0), (14, 1), (15, 2), (16, 3), (17, 4), (18, 5)], [(13, 0), (14, 1), (15, 2), (16, 3), (17, 4), (18, 5), (19, 6)]]
        [Is (.int .u64 u), Is (.int .u8 b.toNat), Is (.int .u64 b.toNat), Is (.int .i64 k), Is (.int .i64 (8 * k : Int)), Is (.int .u64 (b.toNat * 256 ^ k : Int)), Is (.int .u64 (u + b.toNat * 256 ^ k : Int))]
        (by kernel_rfl) Grew.trans Grew.refl (Grew.refl _).drew (by kernel_rfl) ⟨is_st, is_st, is_st, is_st, is_st, is_st, is_st, trivial⟩ rfl ⟨?_, ?_, ?_, ?_, ?_, ?_, ?_, trivial⟩ ?_ rfl
      · intro y w2 hG hD K hK
        have dg0 := hG.cell g0
        simp only [fillL, Act.put, List.setIfInBounds_toArray, List.set_cons_zero, List.set_cons_succ, List.getD_cons_zero, List.getD_cons_succ, Is] at hK ⊢
        refine ite_yes (by rfl) ?_
        go_simp
        exact hK _ _ _ rfl (Grew.refl _) rfl
      · intro y w2 hG hD K hK
        simp only [fillL, Act.put, List.setIfInBounds_toArray, List.set_cons_zero, List.set_cons_succ, List.getD_cons_zero, List.getD_cons_succ, Is] at hK ⊢
        refine ite_yes (by rfl) ?_
        go_simp
        exact hK _ _ _ rfl (Grew.refl _) rfl
      · intro y w2 hG hD K hK
        simp only [depsH, List.getD_cons_zero, List.getD_cons_succ, Is, and_true] at hD
        have h1 := hD
        clear hD
        simp only [fillL, Act.put, List.setIfInBounds_toArray, List.set_cons_zero, List.set_cons_succ, List.getD_cons_zero, List.getD_cons_succ, Is] at hK ⊢
        rw [h1] at hK ⊢
        clear h1
        refine ite_yes (by rfl) ?_
        go_simp
        exact hK _ _ _ rfl (Grew.refl _) (congrArg (Value.int _) (wb_lem b.toNat hb))
      · intro y w2 hG hD K hK
        simp only [fillL, Act.put, List.setIfInBounds_toArray, List.set_cons_zero, List.set_cons_succ, List.getD_cons_zero, List.getD_cons_succ, Is] at hK ⊢
        refine ite_yes (by rfl) ?_
        go_simp
        exact hK _ _ _ rfl (Grew.refl _) rfl
      · intro y w2 hG hD K hK
        simp only [depsH, List.getD_cons_zero, List.getD_cons_succ, Is, and_true] at hD
        have h3 := hD
        clear hD
        simp only [fillL, Act.put, List.setIfInBounds_toArray, List.set_cons_zero, List.set_cons_succ, List.getD_cons_zero, List.getD_cons_succ, Is] at hK ⊢
        rw [h3] at hK ⊢
        clear h3
        refine ite_yes (by rfl) ?_
        go_simp
        exact hK _ _ _ rfl (Grew.refl _) (congrArg (Value.int _) (w8_lem k hk8))
      · intro y w2 hG hD K hK
        simp only [depsH, List.getD_cons_zero, List.getD_cons_succ, Is, and_true] at hD
        have h2 := hD.1
        have h4 := hD.2
        clear hD
        simp only [fillL, Act.put, List.setIfInBounds_toArray, List.set_cons_zero, List.set_cons_succ, List.getD_cons_zero, List.getD_cons_succ, Is] at hK ⊢
        rw [h2, h4] at hK ⊢
        clear h2 h4
        refine ite_yes (by rfl) ?_
        go_simp
        exact hK _ _ _ rfl (Grew.refl _) (congrArg (Value.int _) (shl_lem b.toNat k hk8 hb))
      · intro y w2 hG hD K hK
        simp only [depsH, List.getD_cons_zero, List.getD_cons_succ, Is, and_true] at hD
        have h0 := hD.1
        have h5 := hD.2
        clear hD
        simp only [fillL, Act.put, List.setIfInBounds_toArray, List.set_cons_zero, List.set_cons_succ, List.getD_cons_zero, List.getD_cons_succ, Is] at hK ⊢
        rw [h0, h5] at hK ⊢
        clear h0 h5
        refine ite_yes (by rfl) ?_
        go_simp
        exact hK _ _ _ rfl (Grew.refl _) (congrArg (Value.int _) (or_lem u b.toNat k hk8 hlo hhi hb))
      · intro y w2 hG hF K hK
        simp only [factsH, Is, and_true, Nat.reduceAdd] at hF
        have h0 := hF.1
        have h1 := hF.2.1
        have h2 := hF.2.2.1
        have h3 := hF.2.2.2.1
        have h4 := hF.2.2.2.2.1
        have h5 := hF.2.2.2.2.2.1
        have h6 := hF.2.2.2.2.2.2
        clear hF
        simp only [lastOf]
        simp only [fillL, Act.put, List.setIfInBounds_toArray, List.set_cons_zero, List.set_cons_succ, List.getD_cons_zero, List.getD_cons_succ, Is] at hK ⊢
        rw [h0, h1, h2, h3, h4, h5, h6]
        clear h0 h1 h2 h3 h4 h5 h6
        refine ite_yes (by rfl) ?_
        have dg0 := hG.cell g0
        have hr2 := hG.heap HROW.out
        have df0 := row_frozen hr2 0
        go_simp
        refine hK _ _ ?_
        have HR2 := Lib.hid hr2
        have HG2 := Lib.hid hG
        clear hr2 hG dg0 df0
        go_wp2
        go_roundw
        case rel =>
          refine ⟨k + 1, by omega, by go_num, ?_⟩
          show _ ∧ _
          rw [HSN.out]
          exact ⟨by have := heap_setCell_same w2 pa 0 _ _ (.int .u64 (u + b.toNat * 256 ^ k)) HR2.out; simpa using this, Moved.setCell (p := ⟨pa, 0, none⟩) (HW.out.2.trans' (Moved.of_grew HG2.out)) (fun _ => rfl) _⟩
        case measure => simp [intOf]; omega
    · have e : k = l.length := by omega
      have hw := HW.out
      rw [e, List.take_length] at hw
      have HF := Lib.hid hw
      clear hw HW
      go_wp2
      go_ret
      exact ⟨rfl, HF.out⟩
end Go.Proofs.Ytajpbclcfjljnaa

/-
  Walks of package tag: kinds, of, Inline. Each returns what the plain table says, for every number. The world only grows.
-/
namespace Go.Proofs.Ytajpbclcfjljnaa.Ft
set_option linter.unusedSimpArgs false
set_option linter.unusedVariables false
open Go Go.RowKit

def zeros (n : Nat) : Array Value := Array.replicate n (.int .i64 0)
def kindRow (t : Nat) : Nat × Nat × Nat :=
  match t with
  | 0 | 1 | 2 | 26 => (1, 0, 0)
  | 4 | 5 | 6 | 7 | 9 | 10 | 25 => (2, 0, 0)
  | 11 => (3, 1, 0) | 12 => (3, 2, 0) | 14 => (3, 4, 0) | 36 => (3, 26, 0)
  | 16 => (3, 1, 2) | 19 => (3, 1, 3) | 22 => (3, 1, 4)
  | 17 => (3, 2, 2) | 20 => (3, 2, 3) | 23 => (3, 2, 4)
  | _ => (0, 0, 0)
def cells3 (p : Nat × Nat × Nat) : Array Value := #[.int .i64 p.1, .int .i64 p.2.1, .int .i64 p.2.2]
def kindsArr : Array Value := ((List.range 37).flatMap fun t => (cells3 (kindRow t)).toList).toArray
def kindOf (t : Int) : Nat × Nat × Nat := if t < 0 then (0, 0, 0) else kindRow t.toNat

theorem zeroKinds (w : World) : (zeroValue 99).run Try.prog w = .ok (.agg (zeros 111)) w := by kernel_rfl
theorem sizeKinds : (Try.prog.info? 99).map (·.size) = some kindsArr.size := by kernel_rfl
theorem aggKind (w : World) : (isAgg 78).run Try.prog w = .ok true w := by kernel_rfl

theorem kindsArr_extract : ∀ (t : Nat), t < 37 → kindsArr.extract (t * 3) (t * 3 + 3) = cells3 (kindRow t)
  | 0, _ => rfl
  | 1, _ => rfl
  | 2, _ => rfl
  | 3, _ => rfl
  | 4, _ => rfl
  | 5, _ => rfl
  | 6, _ => rfl
  | 7, _ => rfl
  | 8, _ => rfl
  | 9, _ => rfl
  | 10, _ => rfl
  | 11, _ => rfl
  | 12, _ => rfl
  | 13, _ => rfl
  | 14, _ => rfl
  | 15, _ => rfl
  | 16, _ => rfl
  | 17, _ => rfl
  | 18, _ => rfl
  | 19, _ => rfl
  | 20, _ => rfl
  | 21, _ => rfl
  | 22, _ => rfl
  | 23, _ => rfl
  | 24, _ => rfl
  | 25, _ => rfl
  | 26, _ => rfl
  | 27, _ => rfl
  | 28, _ => rfl
  | 29, _ => rfl
  | 30, _ => rfl
  | 31, _ => rfl
  | 32, _ => rfl
  | 33, _ => rfl
  | 34, _ => rfl
  | 35, _ => rfl
  | 36, _ => rfl
  | n + 37, h => absurd h (by omega)

set_option maxRecDepth 100000 in
set_option maxHeartbeats 400000 in
theorem kinds_any (w : World) :
    Calls Try.prog 62 #[] w fun e w' => e = .returned (.agg kindsArr) ∧ Grew w w' := by
  have hz := zeroKinds
  go_enter Try.func62, Try.ntmps62
  go_wp2_with (first | (with_reducible refine wpList_build_eq rfl 99 _ rfl kindsArr (by kernel_rfl) ?_) | (with_reducible refine wpList_store_row rfl 99 _ _ rfl w.heap.size kindsArr rfl (by kernel_rfl) 99 (zeros 111) (heap_alloc_new _ _) sizeKinds (by kernel_rfl) (by kernel_rfl) ?_))
  rw [setRow_alloc]
  exact bodyPost_ret (results_cell_row (cs := kindsArr) rfl _ _ w.heap.size 99 (0, 0) _ (by rfl) (heap_alloc_new _ _) Try.underlying99 rfl sizeKinds) rfl ⟨rfl, (Grew.refl w).alloc _⟩

set_option maxHeartbeats 400000 in
theorem of_any (t : Int) (w : World) :
    Calls Try.prog 37 #[.int .i64 t] w fun e w' => e = .returned (.agg (cells3 (kindOf t))) ∧ Grew w w' := by
  by_cases h0 : t < 0
  · go_enter Try.func37, Try.ntmps37
    go_wp2
    exact bodyPost_ret (v := .agg (cells3 (kindOf t))) (by simp [results, Try.results37, go_sem, cells3, kindOf, h0]) rfl ⟨rfl, (Grew.refl w).alloc _⟩
  · by_cases h1 : 37 ≤ t
    · have hk : kindOf t = (0, 0, 0) := by
        unfold kindOf
        rw [if_neg h0]
        obtain ⟨n, rfl⟩ := Int.eq_ofNat_of_zero_le (by omega : 0 ≤ t)
        obtain ⟨m, rfl⟩ : ∃ m, n = m + 37 := ⟨n - 37, by omega⟩
        rfl
      go_enter Try.func37, Try.ntmps37
      go_wp2
      exact bodyPost_ret (v := .agg (cells3 (kindOf t))) (by simp [results, Try.results37, go_sem, cells3, hk]) rfl ⟨by rw [hk], (Grew.refl w).alloc _⟩
    · have hk : kindOf t = kindRow t.toNat := by unfold kindOf; rw [if_neg h0]
      have hx := fun w' => run_index_agg (P := Try.prog) 99 78 37 3 kindsArr .i64 t w' Try.underlying99 (aggKind w') (by kernel_rfl) (by omega) (by omega)
      rw [kindsArr_extract t.toNat (by omega), ← hk] at hx
      generalize kindOf t = k at *
      clear hk
      go_enter Try.func37, Try.ntmps37
      unfold cells3 at hx
      go_wp2_with fail
      refine (kinds_any _).mono ?_
      rintro e w1 ⟨rfl, hg⟩
      obtain ⟨hc, hf, hs⟩ := hg.rules
      simp only [World.size_alloc] at hc hf hs
      go_wp2
      exact bodyPost_ret (v := .agg (cells3 k)) (by simp [results, Try.results37, go_sem, cells3, hc, hf]) rfl ⟨rfl, (((((Grew.refl w).alloc _).trans hg).setCell (by simp) _).setCell (by simp) _).setCell (by simp) _⟩

@[local go_sem] theorem field_is (a b c : Value) (w : World) : (Instr.field 78 (.agg #[a, b, c]) 0).run Try.prog w = .ok a w := by kernel_rfl
def inlineB (t : Int) : Bool := decide ((kindOf t).1 = 1)
set_option maxHeartbeats 400000 in
theorem inline_any (t : Int) (w : World) :
    Calls Try.prog 16 #[.int .i64 t] w fun e w' => e = .returned (.bool (inlineB t)) ∧ Grew w w' := by
  go_enter Try.func16, Try.ntmps16
  go_wp2_with fail
  refine (of_any _ _).mono ?_
  rintro e w1 ⟨rfl, hg⟩
  have hi : (((kindOf t).1 : Int) == 1) = inlineB t := by unfold inlineB; rw [Bool.eq_iff_iff]; simp; omega
  unfold cells3
  go_wp2
  go_ret
  exact ⟨by rw [← hi]; rfl, hg⟩

end Go.Proofs.Ytajpbclcfjljnaa.Ft

/-
  DERIVED: THE SHELF's CONTRACTS AT THIS DUMP, IN PLAIN WORDS (tools/lay-plain.mjs out of 'TryShelf.lean', which tools/lay-shelf.mjs wrote): THE SAME DECLARATIONS UNDER THE SAME NAMES: 'import', 'namespace', 'open', 'def', 'theorem' AND NOTHING ELSE: no command of the shelf's: FOR A HAND-IN. Each laying: the table of numbers ('.._ren') and one theorem, a field a fact of the dump's own or the kernel's comparison; each contract: ONE APPLICATION.
-/
namespace Go.Proofs
open Go.Shelf
def Try.lays129_ren : Go.Shelf.Ren := ⟨fun | 129 => 66 | n => n, fun | 53 => 28 | 3 => 3 | 4 => 4 | 46 => 109 | 5 => 5 | 9 => 9 | n => n, fun | n => n⟩
theorem Try.lays129 : Go.Proofs.Lays.n129 Try.prog Try.lays129_ren := {
  mixed := by kernel_rfl
  f129 := Try.func66.trans (congrArg some (by kernel_rfl))
  t3 := Try.underlying3
  a3 := Try.isAgg3
  z3 := Try.sizeOf3
  v3 := Try.zeroValue3
  t4 := Try.underlying4
  a4 := Try.isAgg4
  z4 := Try.sizeOf4
  v4 := Try.zeroValue4
  t5 := Try.underlying5
  a5 := Try.isAgg5
  z5 := Try.sizeOf5
  v5 := Try.zeroValue5
  t9 := Try.underlying9
  a9 := Try.isAgg9
  z9 := Try.sizeOf9
  v9 := Try.zeroValue9
  t46 := Try.underlying109
  a46 := Try.isAgg109
  z46 := Try.sizeOf109
  v46 := Try.zeroValue109
  t53 := Try.underlying28
  a53 := Try.isAgg28
  z53 := Try.sizeOf28
  v53 := Try.zeroValue28 }
/-- bits.Len64: "Len64 returns the minimum number of bits required to represent x; the result is 0 for x == 0.": IT RETURNS 'Lib.bitLen x'; the world is as it was. ('h0', 'h1': x is a uint64.) (LAID: no walk: one application.) -/
theorem Try.bits_Len64 (x : Int) (w : World) (h0 : 0 ≤ x) (h1 : x ≤ 18446744073709551615) :
    Calls Try.prog 66 #[.int .u64 x] w fun e w' => e = .returned (.int .i64 (Lib.bitLen x.toNat)) ∧ w' = w := Any.bits_Len64 Try.lays129 x w h0 h1
end Go.Proofs

/-
  Walks of package width (least, Of) and of the plain helpers below. Of returns the least of 1, 2, 4, 8 bytes that hold the number, for every uint64. The world stays as it was.
-/
namespace Go.Proofs.Ytajpbclcfjljnaa.Ft
open Go Go.RowKit

def leastW (m : Int) : Int := if m ≤ 8 then 1 else if m ≤ 16 then 2 else if m ≤ 32 then 4 else 8
def widthOf (n : Nat) : Int := if n < 2 ^ 8 then 1 else if n < 2 ^ 16 then 2 else if n < 2 ^ 32 then 4 else 8

set_option maxHeartbeats 400000 in
theorem least_any (m : Int) (w : World) :
    Calls Try.prog 65 #[.int .i64 m] w fun e w' => e = .returned (.int .i64 (leastW m)) ∧ w = w' := by
  go_enter Try.func65, Try.ntmps65
  go_wp2
  go_loop [3, 4, 5] (fun _ _ c => c = .int .i64 0 ∨ (c = .int .i64 1 ∧ 8 < m) ∨ (c = .int .i64 2 ∧ 16 < m) ∨ (c = .int .i64 3 ∧ 32 < m) ∨ (c = .int .i64 4 ∧ 32 < m)) (fun _ _ c => 4 - (intOf c).toNat)
  case atStart => exact Or.inl rfl
  case round =>
    rcases hrel with rfl | ⟨rfl, h⟩ | ⟨rfl, h⟩ | ⟨rfl, h⟩ | ⟨rfl, h⟩
    all_goals go_wp2
    all_goals first
      | (go_round
         case rel => simp; try omega
         case measure => simp [intOf])
      | (go_ret
         exact ⟨ret_int (by unfold leastW; repeat' split <;> omega), rfl⟩)

theorem bitLenAux_le : ∀ (f n k : Nat), n < 2 ^ f → (Lib.bitLenAux f n ≤ k ↔ n < 2 ^ k)
  | 0, n, k, h => by
    have h0 : n = 0 := by simpa using h
    subst h0
    simp [Lib.bitLenAux, Nat.pow_pos]
  | f + 1, n, k, h => by
    unfold Lib.bitLenAux
    by_cases h0 : n = 0
    · subst h0; simp [Nat.pow_pos]
    · rw [if_neg h0]
      have ih := bitLenAux_le f (n / 2) (k - 1) (by rw [Nat.pow_succ] at h; omega)
      cases k with
      | zero => simp; omega
      | succ k =>
        rw [Nat.add_sub_cancel] at ih
        rw [Nat.pow_succ]
        constructor
        · intro hle; have := ih.1 (by omega); omega
        · intro hlt; have := ih.2 (by omega); omega
theorem bitLen_le (n k : Nat) (h : n < 2 ^ 64) : Lib.bitLen n ≤ k ↔ n < 2 ^ k := bitLenAux_le 64 n k h

set_option maxHeartbeats 400000 in
theorem widthOf_any (u : Int) (w : World) (h0 : 0 ≤ u) (h1 : u ≤ 18446744073709551615) :
    Calls Try.prog 49 #[.int .u64 u] w fun e w' => e = .returned (.int .i64 (widthOf u.toNat)) ∧ w = w' := by
  go_enter Try.func49, Try.ntmps49
  go_wp2_with fail
  refine (Try.bits_Len64 u _ h0 h1).mono ?_
  rintro e w1 ⟨rfl, rfl⟩
  go_wp2_with fail
  refine (least_any _ _).mono ?_
  rintro e w1 ⟨rfl, rfl⟩
  go_wp2
  go_ret
  refine ⟨ret_int ?_, rfl⟩
  have hu : u.toNat < 2 ^ 64 := by omega
  have a := bitLen_le u.toNat 8 hu
  have b := bitLen_le u.toNat 16 hu
  have c := bitLen_le u.toNat 32 hu
  unfold leastW widthOf
  by_cases h8 : u.toNat < 2 ^ 8
  · rw [if_pos h8, if_pos (by have := a.2 h8; omega)]
  · rw [if_neg h8, if_neg (by intro h; exact h8 (a.1 (by omega)))]
    by_cases h16 : u.toNat < 2 ^ 16
    · rw [if_pos h16, if_pos (by have := b.2 h16; omega)]
    · rw [if_neg h16, if_neg (by intro h; exact h16 (b.1 (by omega)))]
      by_cases h32 : u.toNat < 2 ^ 32
      · rw [if_pos h32, if_pos (by have := c.2 h32; omega)]
      · rw [if_neg h32, if_neg (by intro h; exact h32 (c.1 (by omega)))]

end Go.Proofs.Ytajpbclcfjljnaa.Ft

/-
  Walks of fit.fits and of the reference's Fits (with below and Inline): both return the plain function fitsF, for every value, offsets and indices up to about 2^31, and the widths 1, 2, 4, 8. The world only grows.
-/
namespace Go.Proofs.Ytajpbclcfjljnaa.Ft
set_option linter.unusedSimpArgs false
set_option linter.unusedVariables false
open Go Go.RowKit

/-- w is a width. -/
def isW (w : Int) : Prop := w = 1 ∨ w = 2 ∨ w = 4 ∨ w = 8

def belowW (x w : Int) : Bool := decide (x < 2 ^ (8 * w.toNat))
def fitsF (ty wd n at_ index w : Int) : Bool :=
  if inlineB ty then decide (wd ≤ w) else decide (n ≤ at_) && belowW ((at_ + w - 1) / w * w + index * w - n) w

theorem widthOf_le (x : Int) (w : Int) (hw : isW w) (h0 : 0 ≤ x) (h1 : x < 2 ^ 64) : decide (widthOf x.toNat ≤ w) = belowW x w := by
  obtain ⟨n, rfl⟩ := Int.eq_ofNat_of_zero_le h0
  unfold belowW
  rw [decide_eq_decide]
  unfold widthOf
  rw [Int.toNat_natCast]
  rcases hw with rfl | rfl | rfl | rfl <;> simp <;> repeat' split <;> omega

abbrev valueV (ty wd n : Int) : Value := .agg #[.int .i64 ty, .int .i64 wd, .int .u64 n]

set_option maxHeartbeats 400000 in
theorem fits_any (ty wd n at_ index v : Int) (w : World) (hv : isW v) (n0 : 0 ≤ n) (n1 : n ≤ 18446744073709551615) (a0 : 0 ≤ at_) (a1 : at_ ≤ 1073741824) (i0 : 0 ≤ index) (i1 : index ≤ 2147483648) :
    Calls Try.prog 50 #[valueV ty wd n, .int .i64 at_, .int .i64 index, .int .i64 v] w fun e w' => e = .returned (.bool (fitsF ty wd n at_ index v)) ∧ Grew w w' := by
  have hv0 : 1 ≤ v ∧ v ≤ 8 := by rcases hv with rfl | rfl | rfl | rfl <;> omega
  obtain ⟨v0, v1⟩ := hv0
  by_cases hi : inlineB ty = true
  · have hf : fitsF ty wd n at_ index v = decide (wd ≤ v) := by unfold fitsF; rw [if_pos hi]
    have HF := Lib.hid hf
    clear hf
    go_enter Try.func50, Try.ntmps50
    go_wp2_with fail
    refine (inline_any _ _).mono ?_
    rintro e w1 ⟨rfl, hg⟩
    obtain ⟨hc, hr, hs⟩ := hg.rules
    simp only [World.size_alloc] at hc hr hs
    go_wp2
    go_ret
    exact ⟨by rw [HF.out]; rfl, (Grew.refl w).alloc _ |>.trans hg⟩
  · have hi' : inlineB ty = false := by simpa using hi
    clear hi
    by_cases hn : n ≤ at_
    · have hp : at_ ≤ (at_ + v - 1) / v * v := by
        rcases hv with rfl | rfl | rfl | rfl <;> omega
      have hp2 : (at_ + v - 1) / v * v ≤ at_ + 7 := by
        rcases hv with rfl | rfl | rfl | rfl <;> omega
      have hm0 : 0 ≤ index * v := Int.mul_nonneg i0 (by omega)
      have hm : index * v ≤ 2147483648 * 8 := Int.mul_le_mul i1 v1 (by omega) (by omega)
      have hf : fitsF ty wd n at_ index v = decide (widthOf ((at_ + v - 1) / v * v + index * v - n).toNat ≤ v) := by
        unfold fitsF; rw [hi', widthOf_le _ _ hv (by omega) (by omega)]; simp [hn]
      have HF := Lib.hid hf
      clear hf
      go_enter Try.func50, Try.ntmps50
      go_wp2_with fail
      refine (inline_any _ _).mono ?_
      rintro e w1 ⟨rfl, hg⟩
      obtain ⟨hc, hr, hs⟩ := hg.rules
      simp only [World.size_alloc] at hc hr hs
      go_wp2_with fail
      refine (widthOf_any _ _ (by omega) (by omega)).mono ?_
      rintro e w2 ⟨rfl, rfl⟩
      go_wp2
      go_ret
      exact ⟨by rw [HF.out]; rfl, (Grew.refl w).alloc _ |>.trans hg⟩
    · have hf : fitsF ty wd n at_ index v = false := by unfold fitsF; rw [hi']; simp [hn]
      have HF := Lib.hid hf
      clear hf
      go_enter Try.func50, Try.ntmps50
      go_wp2_with fail
      refine (inline_any _ _).mono ?_
      rintro e w1 ⟨rfl, hg⟩
      obtain ⟨hc, hr, hs⟩ := hg.rules
      simp only [World.size_alloc] at hc hr hs
      go_wp2
      go_ret
      exact ⟨by rw [HF.out]; rfl, (Grew.refl w).alloc _ |>.trans hg⟩

end Go.Proofs.Ytajpbclcfjljnaa.Ft

/-
  Walks of fit.widths, its iterator, and fit.least: least returns the first of 1, 2, 4, 8 at which the function that it is handed says yes, or 0. Condition: that function answers by a plain predicate and lets the world only grow.
-/
namespace Go.Proofs.Ytajpbclcfjljnaa.Ft
open Go Go.RowKit Go.Shelf
attribute [local go_sem] Oper.semAt_some

theorem Grew.keeps {W W' : World} (h : Grew W W') : KeepsOthers W W' := ⟨h.size, fun _ _ hk _ => Grew.heap h hk⟩

theorem cell_new_l (W : World) (v : Value) (t : TypeId) : (W.alloc (.cells #[v] t)).cell? ⟨W.heap.size, 0, none⟩ = some v ∧ (W.alloc (.cells #[v] t)).frozen? ⟨W.heap.size, 0, none⟩ = false :=
  ⟨by simp, by simp⟩
theorem cell_alloc_l {W : World} {a : Addr} {v : Value} (o : Obj) (h : W.cell? a = some v) : (W.alloc o).cell? a = some v := Grew.cell ((Grew.refl W).alloc o) h
theorem frozen_alloc_l {W : World} {a : Addr} {v : Value} (o : Obj) (h : W.cell? a = some v) (hf : W.frozen? a = false) : (W.alloc o).frozen? a = false := Grew.frozen ((Grew.refl W).alloc o) (lt_of_cell h) hf

/-- The iterator over 1, 2, 4, 8. -/
abbrev Wid := { x : Int // isW x }
def wd1 : Wid := ⟨1, .inl rfl⟩
def wd2 : Wid := ⟨2, .inr (.inl rfl)⟩
def wd4 : Wid := ⟨4, .inr (.inr (.inl rfl))⟩
def wd8 : Wid := ⟨8, .inr (.inr (.inr rfl))⟩
theorem widths1_stops (w : World) : SeqStopsK Fence.wide 9 Try.prog 70 #[] (fun v : Wid => #[Value.int .i64 v.1]) (fun _ _ => True) (fun xs => xs = [wd1, wd2, wd4, wd8]) (fun pre => pre <+: [wd1, wd2, wd4, wd8]) 4 w := by
  intro l J Jx W _ _ _ hY h0
  refine callsIn_of_wp Try.func70 rfl trivial ?_ rfl
  simp only [Try.ntmps70, List.size_toArray, List.length_cons, List.length_nil, Nat.reduceAdd, Nat.reduceSub, Array.replicate_succ, Array.replicate_zero, List.push_toArray, List.append_toArray, List.nil_append, List.cons_append]
  gi_wp2
  gi_loopw [2] (fun v wr => (v = .int .i64 1 ∧ J [] wr) ∨ (v = .int .i64 2 ∧ J [wd1] wr) ∨ (v = .int .i64 4 ∧ J [wd1, wd2] wr) ∨ (v = .int .i64 8 ∧ J [wd1, wd2, wd4] wr) ∨ (v = .int .i64 16 ∧ J [wd1, wd2, wd4, wd8] wr)) (fun v _ => 16 - (intOf v).toNat)
  case atStart => exact .inl ⟨rfl, h0⟩
  case round =>
    rcases hrel with ⟨rfl, hJ⟩ | ⟨rfl, hJ⟩ | ⟨rfl, hJ⟩ | ⟨rfl, hJ⟩ | ⟨rfl, hJ⟩
    · obtain ⟨fn, tmps, assign, body, hy, hR⟩ := hY _ wd1 wr hJ (by simp)
      dsimp only [wd1] at hy
      gi_wp2
      refine hR.mono ?_
      rintro e W3 (⟨rfl, hJ3, _⟩ | ⟨rfl, hJx3⟩)
      · gi_wp2
        go_roundw
        case rel => exact .inr (.inl ⟨rfl, hJ3⟩)
        case measure => simp [intOf]
      · gi_wp2
        refine bodyPost_ret (results_none rfl _ _ _) rfl ?_
        exact ⟨⟨_, rfl⟩, .inr ⟨_, ⟨[wd2, wd4, wd8], rfl⟩, hJx3⟩⟩
    · obtain ⟨fn, tmps, assign, body, hy, hR⟩ := hY _ wd2 wr hJ (by simp)
      dsimp only [wd2] at hy
      gi_wp2
      refine hR.mono ?_
      rintro e W3 (⟨rfl, hJ3, _⟩ | ⟨rfl, hJx3⟩)
      · gi_wp2
        go_roundw
        case rel => exact .inr (.inr (.inl ⟨rfl, hJ3⟩))
        case measure => simp [intOf]
      · gi_wp2
        refine bodyPost_ret (results_none rfl _ _ _) rfl ?_
        exact ⟨⟨_, rfl⟩, .inr ⟨_, ⟨[wd4, wd8], rfl⟩, hJx3⟩⟩
    · obtain ⟨fn, tmps, assign, body, hy, hR⟩ := hY _ wd4 wr hJ (by simp)
      dsimp only [wd4] at hy
      gi_wp2
      refine hR.mono ?_
      rintro e W3 (⟨rfl, hJ3, _⟩ | ⟨rfl, hJx3⟩)
      · gi_wp2
        go_roundw
        case rel => exact .inr (.inr (.inr (.inl ⟨rfl, hJ3⟩)))
        case measure => simp [intOf]
      · gi_wp2
        refine bodyPost_ret (results_none rfl _ _ _) rfl ?_
        exact ⟨⟨_, rfl⟩, .inr ⟨_, ⟨[wd8], rfl⟩, hJx3⟩⟩
    · obtain ⟨fn, tmps, assign, body, hy, hR⟩ := hY _ wd8 wr hJ (by simp)
      dsimp only [wd8] at hy
      gi_wp2
      refine hR.mono ?_
      rintro e W3 (⟨rfl, hJ3, _⟩ | ⟨rfl, hJx3⟩)
      · gi_wp2
        go_roundw
        case rel => exact .inr (.inr (.inr (.inr ⟨rfl, hJ3⟩)))
        case measure => simp [intOf]
      · gi_wp2
        refine bodyPost_ret (results_none rfl _ _ _) rfl ?_
        exact ⟨⟨_, rfl⟩, .inr ⟨_, ⟨[], rfl⟩, hJx3⟩⟩
    · gi_wp2
      go_end0
      exact ⟨⟨_, rfl⟩, .inl ⟨_, rfl, hJ⟩⟩

theorem widths_any (w : World) : Calls Try.prog 64 #[] w fun e w' => e = .returned (.func (.func 70) #[] #[]) ∧ w = w' := by
  go_enter Try.func64, Try.ntmps64
  go_wp2
  go_ret
  exact ⟨rfl, rfl⟩

/-- The least width of a predicate, or 0. -/
def leastOf (p : Int → Bool) : Int := if p 1 then 1 else if p 2 then 2 else if p 4 then 4 else if p 8 then 8 else 0

/-- A function value that answers by p, from W0 on. -/
def Answers (g : Nat) (lb : Array Value) (W0 : World) (p : Int → Bool) : Prop :=
  ∀ v, isW v → ∀ W, Grew W0 W → Calls Try.prog g (#[.int .i64 v] ++ lb) W fun e W' => e = .returned (.bool (p v)) ∧ Grew W W'

set_option maxRecDepth 100000 in
set_option maxHeartbeats 2000000 in
theorem leastFit_any (g : Nat) (lb : Array Value) (p : Int → Bool) (w : World) (he : ∀ args w, (callFunc g args).run Try.prog w = .ok (.enter g args) w) (hp : Answers g lb w p) :
    Calls Try.prog 47 #[.func (.func g) #[] lb] w fun e W' => e = .returned (.int .i64 (leastOf p)) ∧ Grew w W' := by
  have HP := Lib.hid hp
  clear hp
  refine (callsIn_wide (n := 10)).1 ?_
  refine callsIn_of_wp_marks Try.func47 rfl trivial ?_ rfl
  simp only [Try.ntmps47, List.size_toArray, List.length_cons, List.length_nil, Nat.reduceAdd, Nat.reduceSub, Array.replicate_succ, Array.replicate_zero, List.push_toArray, List.append_toArray, List.nil_append, List.cons_append]
  gi_wp2_with fail
  refine ⟨trivial, (callsIn_wide.2 (widths_any _)).mono ?_⟩
  rintro e w' ⟨rfl, rfl⟩
  have c0 := cell_new_l w (.func (.func g) #[] lb) 42
  have c1 := cell_new_l (w.alloc (.cells #[.func (.func g) #[] lb] 42)) (.int .i64 0) 3
  simp only [World.size_alloc] at c1
  have hB0 : Below w.heap.size w ((w.alloc (.cells #[.func (.func g) #[] lb] 42)).alloc (.cells #[.int .i64 0] 3)) := ((Below.refl _ w).alloc (Nat.le_refl _) _).alloc (by simp) _
  gi_wp2_with fail
  refine wpIn_rangeFunc_ownF rfl (by omega) (gf := 70) (lb := #[]) rfl trivial (enters_of Try.func70 (by kernel_rfl) rfl)
    (widths1_stops _) (fun _ _ => trivial) (fun _ _ _ _ _ _ _ _ => trivial) (Below.refl _ _) (fun _ => rfl)
    (fun pre W => ((∀ y ∈ pre, p y.1 = false) ∧ W.cell? ⟨w.heap.size, 0, none⟩ = some (.func (.func g) #[] lb) ∧ W.cell? ⟨w.heap.size + 1, 0, none⟩ = some (.int .i64 0) ∧ W.frozen? ⟨w.heap.size + 1, 0, none⟩ = false) ∧ Below w.heap.size w W)
    (fun c pre W => (c = .ret ∧ (∃ x q, pre = q ++ [x] ∧ p x.1 = true ∧ (∀ y ∈ q, p y.1 = false) ∧ W.cell? ⟨w.heap.size + 1, 0, none⟩ = some (.int .i64 x.1))) ∧ Below w.heap.size w W)
    (OwnFrom.and (Own.from (fun s A B row hs hg hr => ⟨hs.1, cell_kept hs.2.1 hg hr, cell_kept hs.2.2.1 hg hr, (frozen_kept hs.2.2.1 hg hr).trans hs.2.2.2⟩) _) (ownFrom_below (Nat.le_refl _) (by simp; omega)))
    (fun c => OwnFrom.and (Own.from (fun s A B row hs hg hr => ⟨hs.1, by obtain ⟨x, q, h1, h2, h3, h4⟩ := hs.2; exact ⟨x, q, h1, h2, h3, cell_kept h4 hg hr⟩⟩) _) (ownFrom_below (Nat.le_refl _) (by simp; omega)))
    ⟨⟨by simp, cell_alloc_l _ c0.1, c1.1, c1.2⟩, hB0⟩
    (fun x => { tmps := #[.func (.func g) #[] lb, .pointer (some ⟨w.heap.size, 0, none⟩), .pointer (some ⟨w.heap.size + 1, 0, none⟩), .int .i64 x.1, .func (.func 70) #[] #[], .int .i64 x.1, undef, undef, undef, undef], defers := [] }) ?assign ?body ?done ?stop
  case assign =>
    intro l x W K hK
    gi_wp2
    exact hK
  case body =>
    rintro l pre x W ⟨⟨hp, hcg, hcr, hfr⟩, hB⟩ hlen
    gi_wp2_with fail
    refine ⟨trivial, ?_⟩
    refine (CallsIn.inRound l (callsIn_wide.2 (HP.out x.1 x.2 W hB))).mono ?_
    rintro e w1 ⟨rfl, hg⟩
    have hcr1 := hg.cell hcr
    have hfr1 := hg.frozen (lt_of_cell hcr) hfr
    have hcg1 := hg.cell hcg
    have hB1 : Below w.heap.size w w1 := Grew.trans hB hg
    have hk := Grew.keeps hg
    clear hcr hcg hfr hg
    by_cases hpx : p x.1 = true
    · gi_wp2
      exact ⟨hk.trans (KeepsOthers.setCell _ _ _), ⟨rfl, x, pre, rfl, hpx, hp, World.cell?_setCell_same' _ _ _ (by rw [hcr1]; rfl)⟩, hB1.setCell (p := ⟨w.heap.size + 1, 0, none⟩) (by simp) _⟩
    · have hpx' : p x.1 = false := by simpa using hpx
      clear hpx
      gi_wp2
      exact ⟨hk, trivial, ⟨fun y hy => (List.mem_append.1 hy).elim (hp y) (fun e => by simp at e; rw [e]; exact hpx'), hcg1, hcr1, hfr1⟩, hB1⟩
  case done =>
    rintro D ys W hD rfl ⟨⟨hne, _, hcr, hfr⟩, hB⟩ hK
    gi_wp2
    have hK' := (KeepsOthers.setCell W ⟨w.heap.size + 1, 0, none⟩ (.int .i64 0)).same D _ hK rfl
    refine ⟨by simp, .inl ⟨_, _, rfl, run_takeDeferred hK', ?_⟩⟩
    have hc5 := cell_kept (World.cell?_setCell_same' W ⟨w.heap.size + 1, 0, none⟩ (.int .i64 0) (by rw [hcr]; rfl)) (grownBy_putObj' _ D (.deferred none)) (fun r e => by cases e; exact ⟨_, hK', rfl⟩)
    have h1 := hne wd1 (by simp)
    have h2 := hne wd2 (by simp)
    have h4 := hne wd4 (by simp)
    have h8 := hne wd8 (by simp)
    dsimp only [wd1, wd2, wd4, wd8] at h1 h2 h4 h8
    refine ⟨.int .i64 0, ?_, by unfold leastOf; rw [h1, h2, h4, h8]; rfl, (hB.setCell (p := ⟨w.heap.size + 1, 0, none⟩) (by simp) _).trans (belowK_b (w := w) (Nat.le_refl _) _ D _ _ (by simp at hD; omega) hK' rfl rfl)⟩
    simp [results, Try.f47, go_sem, hc5]
  case stop =>
    rintro D c pre W hD hpre ⟨⟨rfl, x, q, rfl, hpx, hq, hcr⟩, hB⟩ hK
    gi_wp2
    refine ⟨by simp, .inl ⟨_, _, rfl, run_takeDeferred hK, ?_⟩⟩
    have hc5 := cell_kept hcr (grownBy_putObj' _ D (.deferred none)) (fun r e => by cases e; exact ⟨_, hK, rfl⟩)
    have hl : leastOf p = x.1 := by
      unfold leastOf
      obtain ⟨r, hr⟩ := hpre
      match q, hq, hr with
      | [], _, hr =>
        simp at hr
        obtain ⟨rfl, _⟩ := hr
        dsimp only [wd1] at hpx ⊢
        rw [hpx]; rfl
      | [a], hq, hr =>
        simp at hr
        obtain ⟨rfl, rfl, _⟩ := hr
        have h1 := hq wd1 (by simp)
        dsimp only [wd1, wd2] at h1 hpx ⊢
        rw [h1, hpx]; rfl
      | [a, b], hq, hr =>
        simp at hr
        obtain ⟨rfl, rfl, rfl, _⟩ := hr
        have h1 := hq wd1 (by simp)
        have h2 := hq wd2 (by simp)
        dsimp only [wd1, wd2, wd4] at h1 h2 hpx ⊢
        rw [h1, h2, hpx]; rfl
      | [a, b, c], hq, hr =>
        simp at hr
        obtain ⟨rfl, rfl, rfl, rfl, _⟩ := hr
        have h1 := hq wd1 (by simp)
        have h2 := hq wd2 (by simp)
        have h4 := hq wd4 (by simp)
        dsimp only [wd1, wd2, wd4, wd8] at h1 h2 h4 hpx ⊢
        rw [h1, h2, h4, hpx]; rfl
      | a :: b :: c :: d :: q, _, hr =>
        have := congrArg List.length hr
        simp at this
    refine ⟨.int .i64 x.1, ?_, by rw [hl], hB.trans (belowK_b (w := w) (Nat.le_refl _) W D _ _ (by simp at hD; omega) hK rfl rfl)⟩
    simp [results, Try.f47, go_sem, hc5]

end Go.Proofs.Ytajpbclcfjljnaa.Ft

/-
  Walks of fit.One, fit.All and of the reference's One, all, All: each pair returns the same plain function. Conditions: a uint64 offset in each value; for All a slice of values that reads as a list. The world only grows.
-/
namespace Go.Proofs.Ytajpbclcfjljnaa.Ft
open Go Go.RowKit

set_option maxHeartbeats 400000 in
theorem within_any (n : Int) (w : World) :
    Calls Try.prog 46 #[.int .i64 n] w fun e w' => e = .returned (.bool (decide (0 ≤ n) && decide (n ≤ 1073741824))) ∧ w = w' := by
  go_enter Try.func46, Try.ntmps46
  go_wp2
  all_goals
    go_ret
    refine ⟨ret_bool ?_, rfl⟩
    first | (simp_all; done) | (simp_all; omega)

def oneF (ty wd n at_ index : Int) : Int :=
  if (0 ≤ at_ ∧ at_ ≤ 1073741824) ∧ 0 ≤ index ∧ index ≤ 1073741824 then leastOf (fun v => fitsF ty wd n at_ index v) else 0

theorem leastOf_1 (p : Int → Bool) (a : p 1 = true) : leastOf p = 1 := by simp [leastOf, a]
theorem leastOf_2 (p : Int → Bool) (a : p 1 = false) (b : p 2 = true) : leastOf p = 2 := by simp [leastOf, a, b]
theorem leastOf_4 (p : Int → Bool) (a : p 1 = false) (b : p 2 = false) (c : p 4 = true) : leastOf p = 4 := by simp [leastOf, a, b, c]
theorem leastOf_8 (p : Int → Bool) (a : p 1 = false) (b : p 2 = false) (c : p 4 = false) (d : p 8 = true) : leastOf p = 8 := by simp [leastOf, a, b, c, d]

/-! ### the reference's One -/
end Go.Proofs.Ytajpbclcfjljnaa.Ft

/-
  Walks of fit.All and of the reference's all and All: both return the plain function allF. Conditions: the values are a list in memory, at most as long as a slice may be; each offset is a uint64. The world only grows.
-/
namespace Go.Proofs.Ytajpbclcfjljnaa.Ft
open Go Go.RowKit

abbrev V3 := Int × Int × Int
def okV (x : V3) : Prop := 0 ≤ x.2.2 ∧ x.2.2 ≤ 18446744073709551615
def fitsV (x : V3) (at_ i v : Int) : Bool := fitsF x.1 x.2.1 x.2.2 at_ i v
abbrev vV (x : V3) : Value := valueV x.1 x.2.1 x.2.2

/-- The slice value v reads as the list l of values in w. -/
def ValsAt (w : World) (v : Value) (l : List V3) : Prop :=
  ∃ a0 cap, v = .slice a0 l.length cap ∧ ∀ i x, l[i]? = some x → ∃ b off, a0 = some ⟨b, off, none⟩ ∧
    w.cell? ⟨b, off + i * 3, none⟩ = some (.int .i64 x.1) ∧ w.cell? ⟨b, off + i * 3 + 1, none⟩ = some (.int .i64 x.2.1) ∧ w.cell? ⟨b, off + i * 3 + 2, none⟩ = some (.int .u64 x.2.2)

theorem ValsAt.grew {w w' : World} {v : Value} {l : List V3} (h : ValsAt w v l) (hg : Grew w w') : ValsAt w' v l := by
  obtain ⟨a0, cap, h1, h3⟩ := h
  exact ⟨a0, cap, h1, fun i x hx => let ⟨b, off, e, p, q, r⟩ := h3 i x hx; ⟨b, off, e, hg.cell p, hg.cell q, hg.cell r⟩⟩

def fitsL : List V3 → Int → Int → Int → Bool
  | [], _, _, _ => true
  | x :: r, at_, i, v => fitsV x at_ i v && fitsL r at_ (i + 1) v
def headF (n : Nat) (k : V3) (at_ ahead v : Int) : Bool := (decide (ahead ≤ 0) || belowW n v) && (!(ahead == 3) || fitsV k at_ 0 v)
def allAt (l : List V3) (k : V3) (at_ ahead v : Int) : Bool := headF l.length k at_ ahead v && fitsL l at_ ahead v

theorem fitsL_drop (l : List V3) (at_ i v : Int) (k : Nat) (x : V3) (h : l[k]? = some x) : fitsL (l.drop k) at_ (i + k) v = (fitsV x at_ (i + k) v && fitsL (l.drop (k + 1)) at_ (i + (k + 1 : Nat)) v) := by
  have hlt : k < l.length := (List.getElem?_eq_some_iff.1 h).1
  rw [List.drop_eq_getElem_cons hlt]
  have : l[k] = x := (List.getElem?_eq_some_iff.1 h).2
  rw [this]
  show (fitsV x at_ (i + k) v && fitsL (l.drop (k + 1)) at_ (i + k + 1) v) = _
  rw [show i + (k : Int) + 1 = i + ((k + 1 : Nat) : Int) by omega]

/-- The three starts of a vector. -/
def isA (a : Int) : Prop := a = 0 ∨ a = 1 ∨ a = 3

set_option maxRecDepth 100000 in
set_option maxHeartbeats 4000000 in
theorem all1_any (l : List V3) (k1 : V3) (at_ ahead v : Int) (sv : Value) (pa pl pk pt : Nat) (w : World) (hv : isW v) (ha : isA ahead) (hl : l.length ≤ 1048576) (a0 : 0 ≤ at_) (a1 : at_ ≤ 1073741824)
    (hok : ∀ x ∈ l, okV x) (hokk : okV k1) (hs : ValsAt w sv l)
    (h1 : w.cell? ⟨pa, 0, none⟩ = some (.int .i64 ahead)) (h2 : w.cell? ⟨pl, 0, none⟩ = some sv) (h4 : w.cell? ⟨pt, 0, none⟩ = some (.int .i64 at_))
    (q1 : w.cell? ⟨pk, 0, none⟩ = some (.int .i64 k1.1)) (q2 : w.cell? ⟨pk, 1, none⟩ = some (.int .i64 k1.2.1)) (q3 : w.cell? ⟨pk, 2, none⟩ = some (.int .u64 k1.2.2)) :
    Calls Try.prog 48 #[.int .i64 v, .pointer (some ⟨pa, 0, none⟩), .pointer (some ⟨pl, 0, none⟩), .pointer (some ⟨pk, 0, none⟩), .pointer (some ⟨pt, 0, none⟩)] w fun e w' => e = .returned (.bool (allAt l k1 at_ ahead v)) ∧ Grew w w' := by
  obtain ⟨sa, cap, rfl, hc⟩ := hs
  obtain ⟨ky, kw, kn⟩ := k1
  have hv0 : 1 ≤ v ∧ v ≤ 8 := by rcases hv with rfl | rfl | rfl | rfl <;> omega
  rcases ha with rfl | rfl | rfl
  · have hh : headF l.length (ky, kw, kn) at_ 0 v = true := by simp [headF]
    go_enter Try.func48, Try.ntmps48
    go_wp2_with fail
    have hh' := Lib.hid hh
    clear hh
    go_loopw [7, 8, 32] (fun _ _ i wr => Grew w wr ∧ ∃ k : Nat, k ≤ l.length ∧ i = .int .i64 k ∧ Hid (fitsL l at_ 0 v = fitsL (l.drop k) at_ (0 + k) v)) (fun _ _ i _ => l.length - (intOf i).toNat)
    case atStart => exact ⟨Grew.refl _, 0, by omega, rfl, by show _ = _; simp⟩
    case round =>
      obtain ⟨hg, k, hk, rfl, hrest⟩ := hrel
      by_cases hlt : k < l.length
      · obtain ⟨x, hx⟩ : ∃ x, l[k]? = some x := ⟨_, List.getElem?_eq_getElem hlt⟩
        obtain ⟨b, off, rfl, c1, c2, c3⟩ := hc k x hx
        have ho := hok x (List.mem_of_getElem? hx)
        have d1 := hg.cell c1
        have d2 := hg.cell c2
        have d3 := hg.cell c3
        have e1 := hg.cell h1
        have e4 := hg.cell h4
        have b1 := lt_of_cell e1
        have b4 := lt_of_cell e4
        dsimp only at b1 b4
        have hd := Lib.hid (fitsL_drop l at_ 0 v k x hx)
        clear c1 c2 c3 hc
        obtain ⟨x1, x2, x3⟩ := x
        by_cases hf : fitsF x1 x2 x3 at_ (↑k) v = true
        · have HX := Lib.hid hf
          go_wp2_with fail
          refine (fits_any _ _ _ _ _ _ _ hv ho.1 ho.2 a0 a1 (by omega) (by omega)).mono ?_
          rintro e w1 ⟨rfl, hg1⟩
          go_wp2
          go_roundw
          case rel => exact ⟨(hg.trans ((Grew.refl _).alloc _)).trans hg1, k + 1, by omega, by go_num, by show _ = _; rw [hrest.out, hd.out]; unfold fitsV; rw [Int.zero_add]; rw [HX.out]; rfl⟩
          case measure => simp [intOf]; omega
        · have hf' : fitsF x1 x2 x3 at_ (↑k) v = false := by simpa using hf
          have HX := Lib.hid hf'
          clear hf
          go_wp2_with fail
          refine (fits_any _ _ _ _ _ _ _ hv ho.1 ho.2 a0 a1 (by omega) (by omega)).mono ?_
          rintro e w1 ⟨rfl, hg1⟩
          go_wp2
          go_ret
          exact ⟨by unfold allAt; rw [hh'.out, hrest.out, hd.out]; unfold fitsV; rw [Int.zero_add]; rw [HX.out]; rfl, (hg.trans ((Grew.refl _).alloc _)).trans hg1⟩
      · obtain rfl : k = l.length := by omega
        go_wp2
        go_ret
        exact ⟨by unfold allAt; rw [hh'.out, hrest.out, List.drop_length]; rfl, hg⟩
  · by_cases hb : belowW l.length v = true
    · have hh : headF l.length (ky, kw, kn) at_ 1 v = true := by simp [headF, hb]
      have hb2 : decide (v < widthOf l.length) = false := by
        have := widthOf_le (l.length : Int) v hv (by omega) (by omega)
        rw [hb, Int.toNat_natCast] at this
        simpa using this
      clear hb
      go_enter Try.func48, Try.ntmps48
      go_wp2_with fail
      refine (widthOf_any _ _ (by omega) (by omega)).mono ?_
      rw [Int.toNat_natCast]
      rintro e w2 ⟨rfl, rfl⟩
      go_wp2_with fail
      have hh' := Lib.hid hh
      clear hh
      go_loopw [7, 8, 32] (fun _ _ i wr => Grew w wr ∧ ∃ k : Nat, k ≤ l.length ∧ i = .int .i64 k ∧ Hid (fitsL l at_ 1 v = fitsL (l.drop k) at_ (1 + k) v)) (fun _ _ i _ => l.length - (intOf i).toNat)
      case atStart => exact ⟨Grew.refl _, 0, by omega, rfl, by show _ = _; simp⟩
      case round =>
        obtain ⟨hg, k, hk, rfl, hrest⟩ := hrel
        by_cases hlt : k < l.length
        · obtain ⟨x, hx⟩ : ∃ x, l[k]? = some x := ⟨_, List.getElem?_eq_getElem hlt⟩
          obtain ⟨b, off, rfl, c1, c2, c3⟩ := hc k x hx
          have ho := hok x (List.mem_of_getElem? hx)
          have d1 := hg.cell c1
          have d2 := hg.cell c2
          have d3 := hg.cell c3
          have e1 := hg.cell h1
          have e4 := hg.cell h4
          have b1 := lt_of_cell e1
          have b4 := lt_of_cell e4
          dsimp only at b1 b4
          have hd := Lib.hid (fitsL_drop l at_ 1 v k x hx)
          clear c1 c2 c3 hc
          obtain ⟨x1, x2, x3⟩ := x
          by_cases hf : fitsF x1 x2 x3 at_ (1 + ↑k) v = true
          · have HX := Lib.hid hf
            go_wp2_with fail
            refine (fits_any _ _ _ _ _ _ _ hv ho.1 ho.2 a0 a1 (by omega) (by omega)).mono ?_
            rintro e w1 ⟨rfl, hg1⟩
            go_wp2
            go_roundw
            case rel => exact ⟨(hg.trans ((Grew.refl _).alloc _)).trans hg1, k + 1, by omega, by go_num, by show _ = _; rw [hrest.out, hd.out]; unfold fitsV; rw [HX.out]; rfl⟩
            case measure => simp [intOf]; omega
          · have hf' : fitsF x1 x2 x3 at_ (1 + ↑k) v = false := by simpa using hf
            have HX := Lib.hid hf'
            clear hf
            go_wp2_with fail
            refine (fits_any _ _ _ _ _ _ _ hv ho.1 ho.2 a0 a1 (by omega) (by omega)).mono ?_
            rintro e w1 ⟨rfl, hg1⟩
            go_wp2
            go_ret
            exact ⟨by unfold allAt; rw [hh'.out, hrest.out, hd.out]; unfold fitsV; rw [HX.out]; rfl, (hg.trans ((Grew.refl _).alloc _)).trans hg1⟩
        · obtain rfl : k = l.length := by omega
          go_wp2
          go_ret
          exact ⟨by unfold allAt; rw [hh'.out, hrest.out, List.drop_length]; rfl, hg⟩
    · have hh : headF l.length (ky, kw, kn) at_ 1 v = false := by simp [headF, hb]
      have hb2 : decide (v < widthOf l.length) = true := by
        have := widthOf_le (l.length : Int) v hv (by omega) (by omega)
        have hb' : belowW l.length v = false := by simpa using hb
        rw [hb', Int.toNat_natCast] at this
        simpa using this
      have hh' := Lib.hid hh
      clear hb hh
      go_enter Try.func48, Try.ntmps48
      go_wp2_with fail
      refine (widthOf_any _ _ (by omega) (by omega)).mono ?_
      rw [Int.toNat_natCast]
      rintro e w2 ⟨rfl, rfl⟩
      go_wp2
      go_ret
      exact ⟨by unfold allAt; rw [hh'.out]; rfl, Grew.refl _⟩
  · by_cases hb : belowW l.length v = true
    · have hb2 : decide (v < widthOf l.length) = false := by
        have := widthOf_le (l.length : Int) v hv (by omega) (by omega)
        rw [hb, Int.toNat_natCast] at this
        simpa using this
      by_cases hkf : fitsF ky kw kn at_ 0 v = true
      · have hh : headF l.length (ky, kw, kn) at_ 3 v = true := by simp [headF, hb, fitsV, hkf]
        clear hb
        go_enter Try.func48, Try.ntmps48
        go_wp2_with fail
        refine (widthOf_any _ _ (by omega) (by omega)).mono ?_
        rw [Int.toNat_natCast]
        rintro e w2 ⟨rfl, rfl⟩
        go_wp2_with fail
        refine (fits_any _ _ _ _ _ _ _ hv hokk.1 hokk.2 a0 a1 (by omega) (by omega)).mono ?_
        rintro e w2 ⟨rfl, hg0⟩
        have h1 := hg0.cell h1
        have h2 := hg0.cell h2
        have h4 := hg0.cell h4
        replace hc : ∀ i x, l[i]? = some x → ∃ b off, sa = some ⟨b, off, none⟩ ∧ w2.cell? ⟨b, off + i * 3, none⟩ = some (.int .i64 x.1) ∧ w2.cell? ⟨b, off + i * 3 + 1, none⟩ = some (.int .i64 x.2.1) ∧ w2.cell? ⟨b, off + i * 3 + 2, none⟩ = some (.int .u64 x.2.2) :=
          fun i x hx => let ⟨b, off, e, p, q, r⟩ := hc i x hx; ⟨b, off, e, hg0.cell p, hg0.cell q, hg0.cell r⟩
        go_wp2_with fail
        have hh' := Lib.hid hh
        clear hh
        go_loopw [7, 8, 32] (fun _ _ i wr => Grew w2 wr ∧ ∃ k : Nat, k ≤ l.length ∧ i = .int .i64 k ∧ Hid (fitsL l at_ 3 v = fitsL (l.drop k) at_ (3 + k) v)) (fun _ _ i _ => l.length - (intOf i).toNat)
        case atStart => exact ⟨Grew.refl _, 0, by omega, rfl, by show _ = _; simp⟩
        case round =>
          obtain ⟨hg, k, hk, rfl, hrest⟩ := hrel
          by_cases hlt : k < l.length
          · obtain ⟨x, hx⟩ : ∃ x, l[k]? = some x := ⟨_, List.getElem?_eq_getElem hlt⟩
            obtain ⟨b, off, rfl, c1, c2, c3⟩ := hc k x hx
            have ho := hok x (List.mem_of_getElem? hx)
            have d1 := hg.cell c1
            have d2 := hg.cell c2
            have d3 := hg.cell c3
            have e1 := hg.cell h1
            have e4 := hg.cell h4
            have b1 := lt_of_cell e1
            have b4 := lt_of_cell e4
            dsimp only at b1 b4
            have hd := Lib.hid (fitsL_drop l at_ 3 v k x hx)
            clear c1 c2 c3 hc
            obtain ⟨x1, x2, x3⟩ := x
            by_cases hf : fitsF x1 x2 x3 at_ (3 + ↑k) v = true
            · have HX := Lib.hid hf
              go_wp2_with fail
              refine (fits_any _ _ _ _ _ _ _ hv ho.1 ho.2 a0 a1 (by omega) (by omega)).mono ?_
              rintro e w1 ⟨rfl, hg1⟩
              go_wp2
              go_roundw
              case rel => exact ⟨(hg.trans ((Grew.refl _).alloc _)).trans hg1, k + 1, by omega, by go_num, by show _ = _; rw [hrest.out, hd.out]; unfold fitsV; rw [HX.out]; rfl⟩
              case measure => simp [intOf]; omega
            · have hf' : fitsF x1 x2 x3 at_ (3 + ↑k) v = false := by simpa using hf
              have HX := Lib.hid hf'
              clear hf
              go_wp2_with fail
              refine (fits_any _ _ _ _ _ _ _ hv ho.1 ho.2 a0 a1 (by omega) (by omega)).mono ?_
              rintro e w1 ⟨rfl, hg1⟩
              go_wp2
              go_ret
              exact ⟨by unfold allAt; rw [hh'.out, hrest.out, hd.out]; unfold fitsV; rw [HX.out]; rfl, hg0.trans ((hg.trans ((Grew.refl _).alloc _)).trans hg1)⟩
          · obtain rfl : k = l.length := by omega
            go_wp2
            go_ret
            exact ⟨by unfold allAt; rw [hh'.out, hrest.out, List.drop_length]; rfl, hg0.trans hg⟩
      · have hkf' : fitsF ky kw kn at_ 0 v = false := by simpa using hkf
        have hh : headF l.length (ky, kw, kn) at_ 3 v = false := by simp [headF, hb, fitsV, hkf']
        have hh' := Lib.hid hh
        clear hb hkf hh
        go_enter Try.func48, Try.ntmps48
        go_wp2_with fail
        refine (widthOf_any _ _ (by omega) (by omega)).mono ?_
        rw [Int.toNat_natCast]
        rintro e w2 ⟨rfl, rfl⟩
        go_wp2_with fail
        refine (fits_any _ _ _ _ _ _ _ hv hokk.1 hokk.2 a0 a1 (by omega) (by omega)).mono ?_
        rintro e w2 ⟨rfl, hg0⟩
        go_wp2
        go_ret
        exact ⟨by unfold allAt; rw [hh'.out]; rfl, hg0⟩
    · have hh : headF l.length (ky, kw, kn) at_ 3 v = false := by simp [headF, hb]
      have hb2 : decide (v < widthOf l.length) = true := by
        have := widthOf_le (l.length : Int) v hv (by omega) (by omega)
        have hb' : belowW l.length v = false := by simpa using hb
        rw [hb', Int.toNat_natCast] at this
        simpa using this
      have hh' := Lib.hid hh
      clear hb hh
      go_enter Try.func48, Try.ntmps48
      go_wp2_with fail
      refine (widthOf_any _ _ (by omega) (by omega)).mono ?_
      rw [Int.toNat_natCast]
      rintro e w2 ⟨rfl, rfl⟩
      go_wp2
      go_ret
      exact ⟨by unfold allAt; rw [hh'.out]; rfl, Grew.refl _⟩

end Go.Proofs.Ytajpbclcfjljnaa.Ft

/-
  Walks of fit.All and of the reference's All: both return the plain function allF. Conditions: the values are a list in memory; each offset is a uint64. The world only grows.
-/
namespace Go.Proofs.Ytajpbclcfjljnaa.Ft
open Go Go.RowKit

instance (a : Int) : Decidable (isA a) := by unfold isA; exact inferInstance
def allF (l : List V3) (k : V3) (at_ ahead : Int) : Int :=
  if (0 ≤ at_ ∧ at_ ≤ 1073741824) ∧ isA ahead ∧ l.length ≤ 1048576 then leastOf (fun v => allAt l k at_ ahead v) else 0

set_option maxRecDepth 100000 in
set_option maxHeartbeats 2000000 in
theorem all_any (l : List V3) (k : V3) (at_ ahead : Int) (sv : Value) (w : World) (hlen : l.length ≤ 9223372036854775807) (hok : ∀ x ∈ l, okV x) (hokk : okV k) (hs : ValsAt w sv l) :
    Calls Try.prog 27 #[.int .i64 at_, .int .i64 ahead, vV k, sv] w fun e w' => e = .returned (.int .i64 (allF l k at_ ahead)) ∧ Grew w w' := by
  have hmf : ∀ (fn : Fn) (first cap : Array Value) (w : World), (Instr.makeFunc fn first cap).run Try.prog w = .ok (.func fn first cap) w := fun _ _ _ _ => rfl
  have HS := Lib.hid hs
  obtain ⟨sa, cap, rfl, _⟩ := hs
  obtain ⟨ky, kw, kn⟩ := k
  by_cases ha : 0 ≤ at_ ∧ at_ ≤ 1073741824
  · have hw : (decide (0 ≤ at_) && decide (at_ ≤ 1073741824)) = true := by simp [ha]
    have HW := Lib.hid hw
    clear hw
    by_cases hi : isA ahead
    · by_cases hl : l.length ≤ 1048576
      · have hf : allF l (ky, kw, kn) at_ ahead = leastOf (fun v => allAt l (ky, kw, kn) at_ ahead v) := by unfold allF; rw [if_pos ⟨ha, hi, hl⟩]
        have HF := Lib.hid hf
        have HI := Lib.hid hi
        clear hf
        rcases hi with rfl | rfl | rfl
        · go_enter Try.func27, Try.ntmps27
          go_wp2_with fail
          refine (within_any _ _).mono ?_
          rw [HW.out]
          rintro e w1 ⟨rfl, rfl⟩
          go_wp2_with fail
          refine (leastFit_any _ _ (fun v => allAt l (ky, kw, kn) at_ 0 v) _ (enters_of Try.func48 (by kernel_rfl) rfl) ?_).mono ?_
          · intro v hv W hW
            exact all1_any l (ky, kw, kn) at_ 0 v (.slice sa l.length cap) (w.heap.size + 1) (w.heap.size + 1 + 1 + 1) (w.heap.size + 1 + 1) w.heap.size W hv HI.out hl ha.1 ha.2 hok hokk ((HS.out.grew (((((Grew.refl w).alloc _).alloc _).alloc _).alloc _)).grew hW) (hW.cell (by go_simp)) (hW.cell (by go_simp)) (hW.cell (by go_simp)) (hW.cell (by go_simp)) (hW.cell (by go_simp)) (hW.cell (by go_simp))
          rintro e w1 ⟨rfl, hg⟩
          go_wp2
          go_ret
          exact ⟨by rw [HF.out]; rfl, (((((Grew.refl w).alloc _).alloc _).alloc _).alloc _).trans hg⟩
        · go_enter Try.func27, Try.ntmps27
          go_wp2_with fail
          refine (within_any _ _).mono ?_
          rw [HW.out]
          rintro e w1 ⟨rfl, rfl⟩
          go_wp2_with fail
          refine (leastFit_any _ _ (fun v => allAt l (ky, kw, kn) at_ 1 v) _ (enters_of Try.func48 (by kernel_rfl) rfl) ?_).mono ?_
          · intro v hv W hW
            exact all1_any l (ky, kw, kn) at_ 1 v (.slice sa l.length cap) (w.heap.size + 1) (w.heap.size + 1 + 1 + 1) (w.heap.size + 1 + 1) w.heap.size W hv HI.out hl ha.1 ha.2 hok hokk ((HS.out.grew (((((Grew.refl w).alloc _).alloc _).alloc _).alloc _)).grew hW) (hW.cell (by go_simp)) (hW.cell (by go_simp)) (hW.cell (by go_simp)) (hW.cell (by go_simp)) (hW.cell (by go_simp)) (hW.cell (by go_simp))
          rintro e w1 ⟨rfl, hg⟩
          go_wp2
          go_ret
          exact ⟨by rw [HF.out]; rfl, (((((Grew.refl w).alloc _).alloc _).alloc _).alloc _).trans hg⟩
        · go_enter Try.func27, Try.ntmps27
          go_wp2_with fail
          refine (within_any _ _).mono ?_
          rw [HW.out]
          rintro e w1 ⟨rfl, rfl⟩
          go_wp2_with fail
          refine (leastFit_any _ _ (fun v => allAt l (ky, kw, kn) at_ 3 v) _ (enters_of Try.func48 (by kernel_rfl) rfl) ?_).mono ?_
          · intro v hv W hW
            exact all1_any l (ky, kw, kn) at_ 3 v (.slice sa l.length cap) (w.heap.size + 1) (w.heap.size + 1 + 1 + 1) (w.heap.size + 1 + 1) w.heap.size W hv HI.out hl ha.1 ha.2 hok hokk ((HS.out.grew (((((Grew.refl w).alloc _).alloc _).alloc _).alloc _)).grew hW) (hW.cell (by go_simp)) (hW.cell (by go_simp)) (hW.cell (by go_simp)) (hW.cell (by go_simp)) (hW.cell (by go_simp)) (hW.cell (by go_simp))
          rintro e w1 ⟨rfl, hg⟩
          go_wp2
          go_ret
          exact ⟨by rw [HF.out]; rfl, (((((Grew.refl w).alloc _).alloc _).alloc _).alloc _).trans hg⟩
      · have hf : allF l (ky, kw, kn) at_ ahead = 0 := by unfold allF; rw [if_neg (fun h => hl h.2.2)]
        have HF := Lib.hid hf
        clear hf
        rcases hi with rfl | rfl | rfl
        all_goals
          go_enter Try.func27, Try.ntmps27
          go_wp2_with fail
          refine (within_any _ _).mono ?_
          rw [HW.out]
          rintro e w1 ⟨rfl, rfl⟩
          go_wp2
          go_ret
          exact ⟨by rw [HF.out]; rfl, (((((Grew.refl w).alloc _).alloc _).alloc _).alloc _)⟩
    · have hf : allF l (ky, kw, kn) at_ ahead = 0 := by unfold allF; rw [if_neg (fun h => hi h.2.1)]
      have HF := Lib.hid hf
      have n0 : (ahead != 0) = true := by rw [bne_iff_ne]; intro h; exact hi (.inl h)
      have n1 : (ahead != 1) = true := by rw [bne_iff_ne]; intro h; exact hi (.inr (.inl h))
      have n3 : (ahead != 3) = true := by rw [bne_iff_ne]; intro h; exact hi (.inr (.inr h))
      clear hf hi
      go_enter Try.func27, Try.ntmps27
      go_wp2_with fail
      refine (within_any _ _).mono ?_
      rw [HW.out]
      rintro e w1 ⟨rfl, rfl⟩
      go_wp2
      go_ret
      exact ⟨by rw [HF.out]; rfl, (((((Grew.refl w).alloc _).alloc _).alloc _).alloc _)⟩
  · have hf : allF l (ky, kw, kn) at_ ahead = 0 := by unfold allF; rw [if_neg (fun h => ha h.1)]
    have HF := Lib.hid hf
    have hb : (decide (0 ≤ at_) && decide (at_ ≤ 1073741824)) = false := by simp; omega
    clear hf
    go_enter Try.func27, Try.ntmps27
    go_wp2_with fail
    refine (within_any _ _).mono ?_
    rw [hb]
    rintro e w1 ⟨rfl, rfl⟩
    go_wp2
    go_ret
    exact ⟨by rw [HF.out]; rfl, (((((Grew.refl w).alloc _).alloc _).alloc _).alloc _)⟩

end Go.Proofs.Ytajpbclcfjljnaa.Ft

/-
  Package tag: Legal, Pack, Unpack, Elem. Maps that a call fills with int keys.
-/
namespace Go.Proofs.Ytajpbclcfjljnaa.Ft
open Go Go.RowKit
set_option linter.unusedVariables false
set_option linter.unusedSimpArgs false

def legalB (t : Int) : Bool := decide ((kindOf t).1 ≠ 0)
set_option maxHeartbeats 400000 in
theorem legal_any (t : Int) (w : World) :
    Calls Try.prog 43 #[.int .i64 t] w fun e w' => e = .returned (.bool (legalB t)) ∧ Grew w w' := by
  go_enter Try.func43, Try.ntmps43
  go_wp2_with fail
  refine (of_any _ _).mono ?_
  rintro e w1 ⟨rfl, hg⟩
  have hi : (((kindOf t).1 : Int) != 0) = legalB t := by unfold legalB; rw [Bool.eq_iff_iff]; simp
  unfold cells3
  have hf := field_is
  go_wp2
  go_ret
  exact ⟨by rw [← hi]; rfl, hg⟩
theorem legal_range {t : Int} (h : legalB t = true) : 0 ≤ t ∧ t ≤ 36 := by
  unfold legalB kindOf at h
  simp at h
  by_cases h0 : t < 0
  · simp [h0] at h
  · refine ⟨by omega, ?_⟩
    by_cases h1 : t ≤ 36
    · exact h1
    · exfalso
      rw [if_neg h0] at h
      obtain ⟨n, rfl⟩ := Int.eq_ofNat_of_zero_le (by omega : 0 ≤ t)
      obtain ⟨m, rfl⟩ : ∃ m, n = m + 37 := ⟨n - 37, by omega⟩
      exact h rfl

/-! ### maps with int keys that a call fills -/
section
variable {P : Program}
def iEntry (k v : Int) (b : Nat) : MapEntry := { key := .int .i64 k, val := .int .i64 v, born := b }
theorem run_fill (w : World) (mty kt et : TypeId) (es : Array MapEntry) (c : Nat) (k : Int) (v : Value) (hm : P.underlying mty = some (.map kt et)) (hk : P.underlying kt = some (.int .i64)) (hf : Instr.findNow (.int .i64) (.int .i64 k) es.toList 0 = some none) (r : Nat) (hr : r = w.heap.size) :
    (Instr.mapUpdate mty (.map (some r)) (.int .i64 k) v).run P (w.alloc (.map es c)) = .ok () (w.alloc (.map (es.push { key := .int .i64 k, val := v, born := c }) (c + 1))) := by
  subst hr
  have hb : (w.alloc (.map es c)).heap[w.heap.size]? = some (.map es c) := heap_alloc_new _ _
  have hc : (Instr.checkKey false 10000 kt (.int .i64 k)).run P (w.alloc (.map es c)) = .ok () (w.alloc (.map es c)) := MapKept.run_checkKey (k := .int .i64 k) hk (by simp [MapKept.IsKey]) false 9999
  have hset : ∀ o : Obj, (w.alloc (.map es c)).heap.setIfInBounds w.heap.size o = w.heap.push o := by
    intro o
    show (w.heap.push (.map es c)).setIfInBounds w.heap.size o = w.heap.push o
    apply Array.ext
    · simp
    · intro i h1 h2
      rw [Array.getElem_setIfInBounds (by simpa using h2)]
      by_cases hi : w.heap.size = i
      · subst hi; simp
      · simp only [if_neg hi]
        have hlt : i < w.heap.size := by simp at h2; omega
        rw [Array.getElem_push_lt hlt, Array.getElem_push_lt hlt]
  simp [Instr.mapUpdate, run_underlying hm, MapKept.run_getObj_map hb, hc, MapKept.run_findKey hk hf, MapKept.run_setObj_map _ hb, Result.andThen]
  rw [hset]
  rfl
theorem run_look (w : World) (mty kt et : TypeId) (es : Array MapEntry) (c : Nat) (k : Int) (z : Value) (hm : P.underlying mty = some (.map kt et)) (hk : P.underlying kt = some (.int .i64)) (a : Option (Nat × Value)) (hf : Instr.findNow (.int .i64) (.int .i64 k) es.toList 0 = some a) (r : Nat) (hb : w.heap[r]? = some (.map es c)) (hz : ∀ w, (zeroValue et).run P w = .ok z w) (ok : Bool) :
    (Instr.lookup mty (.map (some r)) (.int .i64 k) ok).run P w = .ok (if ok then .tuple #[(a.map (·.2)).getD z, .bool a.isSome] else (a.map (·.2)).getD z) w := by
  have hc : ∀ e, (Instr.checkKey e 10000 kt (.int .i64 k)).run P w = .ok () w := fun e => MapKept.run_checkKey (k := .int .i64 k) hk (by simp [MapKept.IsKey]) e 9999
  cases a with
  | none => simp [Instr.lookup, run_underlying hm, MapKept.run_getObj_map hb, hc, MapKept.run_findKey hk hf, Result.andThen, hz, Sem.run_pure, Sem.run_bind]
  | some q => obtain ⟨i, v⟩ := q; simp [Instr.lookup, run_underlying hm, MapKept.run_getObj_map hb, hc, MapKept.run_findKey hk hf, Result.andThen, Sem.run_pure, Sem.run_bind]
end

def codeF (x : Int) : Option Int := if x = 1 then some 0 else if x = 2 then some 1 else if x = 4 then some 2 else if x = 8 then some 3 else none
theorem codeF_cases (x : Int) : codeF x = none ∨ codeF x = some 0 ∨ codeF x = some 1 ∨ codeF x = some 2 ∨ codeF x = some 3 := by
  unfold codeF
  by_cases h1 : x = 1
  · simp [h1]
  by_cases h2 : x = 2
  · simp [h2]
  by_cases h4 : x = 4
  · simp [h4]
  by_cases h8 : x = 8
  · simp [h8]
  simp [h1, h2, h4, h8]
def packF (t x : Int) : Int × Int := if legalB t then match codeF x with | some c => (4 * t + c, 0) | none => (0, 2) else (0, 20)
abbrev M4 : Array MapEntry := #[⟨.int .i64 1, .int .i64 0, 0⟩, ⟨.int .i64 2, .int .i64 1, 1⟩, ⟨.int .i64 4, .int .i64 2, 2⟩, ⟨.int .i64 8, .int .i64 3, 3⟩]
theorem zeroInt (w : World) : (zeroValue 3).run Try.prog w = .ok (.int .i64 0) w := by kernel_rfl
theorem look4 (x : Int) : Instr.findNow (.int .i64) (.int .i64 x) M4.toList 0 = some ((codeF x).map fun c => (c.toNat, .int .i64 c)) := by
  unfold codeF
  by_cases h1 : x = 1
  · subst h1; rfl
  by_cases h2 : x = 2
  · subst h2; rfl
  by_cases h4 : x = 4
  · subst h4; rfl
  by_cases h8 : x = 8
  · subst h8; rfl
  have b1 : (x == 1) = false := by simpa using h1
  have b2 : (x == 2) = false := by simpa using h2
  have b4 : (x == 4) = false := by simpa using h4
  have b8 : (x == 8) = false := by simpa using h8
  simp only [if_neg h1, if_neg h2, if_neg h4, if_neg h8]
  simp [Instr.findNow, Instr.sameNow, b1, b2, b4, b8]
set_option maxHeartbeats 1000000 in
theorem pack_any (t x : Int) (w : World) :
    Calls Try.prog 55 #[.int .i64 t, .int .i64 x] w fun e w' => e = .returned (.tuple #[.int .u8 (packF t x).1, .int .i64 (packF t x).2]) ∧ Grew w w' := by
  have hmm := fun w => run_makeMap_plain (P := Try.prog) w 107
  have f0 : ∀ w : World, (Instr.mapUpdate 107 (.map (some w.heap.size)) (.int .i64 1) (.int .i64 0)).run Try.prog (w.alloc (.map #[] 0)) = .ok () (w.alloc (.map #[⟨.int .i64 1, .int .i64 0, 0⟩] 1)) := fun w => run_fill (P := Try.prog) w 107 3 3 #[] 0 1 (.int .i64 0) Try.underlying107 Try.underlying3 (by rfl) w.heap.size rfl
  have f1 : ∀ w : World, (Instr.mapUpdate 107 (.map (some w.heap.size)) (.int .i64 2) (.int .i64 1)).run Try.prog (w.alloc (.map #[⟨.int .i64 1, .int .i64 0, 0⟩] 1)) = .ok () (w.alloc (.map #[⟨.int .i64 1, .int .i64 0, 0⟩, ⟨.int .i64 2, .int .i64 1, 1⟩] 2)) := fun w => run_fill (P := Try.prog) w 107 3 3 #[⟨.int .i64 1, .int .i64 0, 0⟩] 1 2 (.int .i64 1) Try.underlying107 Try.underlying3 (by rfl) w.heap.size rfl
  have f2 : ∀ w : World, (Instr.mapUpdate 107 (.map (some w.heap.size)) (.int .i64 4) (.int .i64 2)).run Try.prog (w.alloc (.map #[⟨.int .i64 1, .int .i64 0, 0⟩, ⟨.int .i64 2, .int .i64 1, 1⟩] 2)) = .ok () (w.alloc (.map #[⟨.int .i64 1, .int .i64 0, 0⟩, ⟨.int .i64 2, .int .i64 1, 1⟩, ⟨.int .i64 4, .int .i64 2, 2⟩] 3)) := fun w => run_fill (P := Try.prog) w 107 3 3 #[⟨.int .i64 1, .int .i64 0, 0⟩, ⟨.int .i64 2, .int .i64 1, 1⟩] 2 4 (.int .i64 2) Try.underlying107 Try.underlying3 (by rfl) w.heap.size rfl
  have f3 : ∀ w : World, (Instr.mapUpdate 107 (.map (some w.heap.size)) (.int .i64 8) (.int .i64 3)).run Try.prog (w.alloc (.map #[⟨.int .i64 1, .int .i64 0, 0⟩, ⟨.int .i64 2, .int .i64 1, 1⟩, ⟨.int .i64 4, .int .i64 2, 2⟩] 3)) = .ok () (w.alloc (.map #[⟨.int .i64 1, .int .i64 0, 0⟩, ⟨.int .i64 2, .int .i64 1, 1⟩, ⟨.int .i64 4, .int .i64 2, 2⟩, ⟨.int .i64 8, .int .i64 3, 3⟩] 4)) := fun w => run_fill (P := Try.prog) w 107 3 3 #[⟨.int .i64 1, .int .i64 0, 0⟩, ⟨.int .i64 2, .int .i64 1, 1⟩, ⟨.int .i64 4, .int .i64 2, 2⟩] 3 8 (.int .i64 3) Try.underlying107 Try.underlying3 (by rfl) w.heap.size rfl
  have hl := fun (w : World) => run_look (P := Try.prog) (w.alloc (.map M4 4)) 107 3 3 M4 4 x (.int .i64 0) Try.underlying107 Try.underlying3 _ (look4 x) w.heap.size (heap_alloc_new _ _) zeroInt true
  by_cases h : legalB t = true
  · obtain ⟨t0, t1⟩ := legal_range h
    have HP : Hid (packF t x = match codeF x with | some c => (4 * t + c, 0) | none => (0, 2)) := by show _ = _; rw [packF, if_pos h]
    have hcc := codeF_cases x
    have HL := Lib.hid h
    go_enter Try.func55, Try.ntmps55
    go_wp2_with fail
    refine (legal_any _ _).mono ?_
    rw [h]
    clear h
    rintro e w1 ⟨rfl, hg⟩
    have HG := Lib.hid (Grew.alloc hg (.map M4 4))
    clear hg
    generalize codeF x = o at *
    rcases hcc with rfl | rfl | rfl | rfl | rfl
    all_goals
      simp only [Option.map_none, Option.map_some, Option.getD_none, Option.getD_some, Option.isSome_none, Option.isSome_some, if_true] at hl
      go_wp2
      go_ret2
      refine ⟨?_, HG.out⟩
      first | (rw [HP.out]; done) | (rw [HP.out]; rfl) | (rw [HP.out]; simp; done) | (rw [HP.out]; simp; omega)
  · have HP : Hid (packF t x = (0, 20)) := by show _ = _; rw [packF, if_neg h]
    have h' : legalB t = false := by simpa using h
    go_enter Try.func55, Try.ntmps55
    go_wp2_with fail
    refine (legal_any _ _).mono ?_
    rw [h']
    clear h h'
    rintro e w1 ⟨rfl, hg⟩
    go_wp2
    go_ret2
    exact ⟨by rw [HP.out]; rfl, hg⟩

/-- Unpack: type, width, error. -/
def unpackF (c : Nat) : Int × Int × Int := if legalB ((c / 4 : Nat) : Int) then (((c / 4 : Nat) : Int), 2 ^ (c % 4), 0) else (0, 0, 20)
set_option maxHeartbeats 1000000 in
theorem unpack_any (c : Nat) (w : World) (hc : c < 256) :
    Calls Try.prog 23 #[.int .u8 c] w fun e w' => e = .returned (.tuple #[.int .i64 (unpackF c).1, .int .i64 (unpackF c).2.1, .int .i64 (unpackF c).2.2]) ∧ Grew w w' := by
  go_enter Try.func23, Try.ntmps23
  go_wp2_with fail
  refine (legal_any _ _).mono ?_
  by_cases h : legalB ((c : Int) / 4) = true
  · have h2 : legalB ((c / 4 : Nat) : Int) = true := by rw [Int.natCast_ediv]; exact h
    have HP : Hid (unpackF c = (((c / 4 : Nat) : Int), 2 ^ (c % 4), 0)) := by show _ = _; rw [unpackF, if_pos h2]
    rw [h]
    clear h h2
    rintro e w1 ⟨rfl, hg⟩
    have hm : c % 4 = 0 ∨ c % 4 = 1 ∨ c % 4 = 2 ∨ c % 4 = 3 := by omega
    have HM := Lib.hid hm
    clear hm
    have hw : wrap64 ((2 : Int) ^ (c % 4)) = 2 ^ (c % 4) := by
      rcases HM.out with h | h | h | h <;> rw [h] <;> (unfold wrap64; decide)
    have HW := Lib.hid hw
    clear hw
    go_wp2
    go_ret3
    refine ⟨?_, hg⟩
    rw [HP.out]
    show Ending.returned (.tuple #[.int .i64 ((c : Int) / 4), .int .i64 (wrap64 ((2 : Int) ^ (c % 4))), .int .i64 0]) = _
    rw [HW.out, Int.natCast_ediv]
    rfl
  · have h2 : ¬ legalB ((c / 4 : Nat) : Int) = true := by rw [Int.natCast_ediv]; exact h
    have HP : Hid (unpackF c = (0, 0, 20)) := by show _ = _; rw [unpackF, if_neg h2]
    rw [show legalB ((c : Int) / 4) = false by simpa using h]
    clear h h2
    rintro e w1 ⟨rfl, hg⟩
    go_wp2
    go_ret3
    exact ⟨by rw [HP.out]; rfl, hg⟩


/-- Elem: the elements' type and number, and whether it is a vector. -/
def elemF (t : Int) : Int × Int × Bool := ((kindOf t).2.1, (kindOf t).2.2, decide ((kindOf t).1 = 3))
theorem field_kind (a b c : Value) (w : World) : (Instr.field 78 (.agg #[a, b, c]) 0).run Try.prog w = .ok a w ∧ (Instr.field 78 (.agg #[a, b, c]) 1).run Try.prog w = .ok b w ∧ (Instr.field 78 (.agg #[a, b, c]) 2).run Try.prog w = .ok c w := ⟨by kernel_rfl, by kernel_rfl, by kernel_rfl⟩
end Go.Proofs.Ytajpbclcfjljnaa.Ft

/-
  Package tag: Typed (a map with struct keys that the call fills).
-/
namespace Go.Proofs.Ytajpbclcfjljnaa.Ft
open Go Go.RowKit
set_option linter.unusedVariables false
set_option linter.unusedSimpArgs false

def K3 (a b c : Int) : Value := .agg #[.int .i64 a, .int .i64 b, .int .i64 c]
theorem equalK (a b c a' b' c' : Int) (W : World) : (Op.equal 78 (K3 a b c) (K3 a' b' c')).run Try.prog W = .ok (decide (a = a' ∧ b = b' ∧ c = c')) W := by
  have h1 := Try.underlying78
  have h3 := Try.underlying3
  have hf : Try.prog.underlying 78 = some (.struct (Try.prog.fieldsOf 78)) := by kernel_rfl
  have hs : Try.prog.stoodInHeld 78 = false := by kernel_rfl
  have hff : Try.prog.fieldsOf 78 = #[{ name := "is", type := 3, offset := 0, embedded := false, tag := "", pkgPath := "accordion/tag", byteOffset := 0 }, { name := "elem", type := 3, offset := 1, embedded := false, tag := "", pkgPath := "accordion/tag", byteOffset := 8 }, { name := "many", type := 3, offset := 2, embedded := false, tag := "", pkgPath := "accordion/tag", byteOffset := 16 }] := by kernel_rfl
  unfold Op.equal K3
  rw [show Op.maxDepth = 9999 + 1 from rfl, run_equalIn_agg _ _ _ _ _ hf hs, hff]
  have g : ∀ (x y : Int), (Op.equalIn 9999 3 (.int .i64 x) (.int .i64 y)).run Try.prog W = .ok (x == y) W := fun x y => run_equalIn_int W 9998 3 .i64 .i64 x y h3
  simp [go_sem, Op.eqFields, g]
  by_cases ha : a = a' <;> by_cases hb : b = b' <;> by_cases hc : c = c' <;> simp [ha, hb, hc]
theorem checkK (a b c : Int) (e : Bool) (W : World) : (Instr.checkKey e 10000 78 (K3 a b c)).run Try.prog W = .ok () W := by
  have h1 := Try.underlying78
  have h3 := Try.underlying3
  have hc : ∀ (x : Int) (W : World), (Instr.checkKey e 9999 3 (.int .i64 x)).run Try.prog W = .ok () W := fun x W => MapKept.run_checkKey (k := .int .i64 x) h3 (by simp [MapKept.IsKey]) e 9998
  unfold Instr.checkKey K3
  simp [go_sem, run_underlying h1, run_underlying h3, hc, Result.andThen]
/-- The entries of the map, keys in order. -/
def entK (p : (Int × Int × Int) × Int) (j : Nat) : MapEntry := { key := K3 p.1.1 p.1.2.1 p.1.2.2, val := .int .i64 p.2, born := j }
def entsK : List ((Int × Int × Int) × Int) → Nat → List MapEntry
  | [], _ => []
  | p :: r, j => entK p j :: entsK r (j + 1)
def findK (k : Int × Int × Int) : List ((Int × Int × Int) × Int) → Nat → Option (Nat × Int)
  | [], _ => none
  | p :: r, j => if k = p.1 then some (j, p.2) else findK k r (j + 1)
theorem findAskingK (k : Int × Int × Int) (W : World) : ∀ (l : List ((Int × Int × Int) × Int)) (j i : Nat), (Instr.findAsking 78 (K3 k.1 k.2.1 k.2.2) (entsK l j) i).run Try.prog W = .ok ((findK k l i).map fun q => (q.1, .int .i64 q.2)) W
  | [], j, i => by simp [entsK, Instr.findAsking, findK, Sem.run_pure]
  | p :: r, j, i => by
    have ih := findAskingK k W r (j + 1) (i + 1)
    unfold entsK Instr.findAsking
    rw [Sem.run_bind, show (entK p j).key = K3 p.1.1 p.1.2.1 p.1.2.2 from rfl, equalK]
    by_cases h : k = p.1
    · have hd : decide (k.1 = p.1.1 ∧ k.2.1 = p.1.2.1 ∧ k.2.2 = p.1.2.2) = true := by rw [h]; simp
      rw [hd]
      simp [findK, h, Result.andThen, Sem.run_pure, entK]
    · have hd : decide (k.1 = p.1.1 ∧ k.2.1 = p.1.2.1 ∧ k.2.2 = p.1.2.2) = false := by
        rw [decide_eq_false_iff_not]
        intro hh
        exact h (Prod.ext hh.1 (Prod.ext hh.2.1 hh.2.2))
      rw [hd]
      simp [findK, h, Result.andThen, ih]
theorem findNowK (k : Value) (l : List MapEntry) (i : Nat) (h : l ≠ []) (fs : Array Field) : Instr.findNow (.struct fs) k l i = none := by
  cases l with
  | nil => exact absurd rfl h
  | cons e r => simp [Instr.findNow, Instr.sameNow]
theorem findKeyK (k : Int × Int × Int) (W : World) (l : List ((Int × Int × Int) × Int)) (j : Nat) : (Instr.findKey 78 (K3 k.1 k.2.1 k.2.2) (entsK l j)).run Try.prog W = .ok ((findK k l 0).map fun q => (q.1, .int .i64 q.2)) W := by
  have h1 := Try.underlying78
  cases l with
  | nil => simp [Instr.findKey, run_underlying h1, Result.andThen, entsK, Instr.findNow, findK, Sem.run_pure, Sem.run_bind]
  | cons p r =>
    have hn : ∀ fs, Instr.findNow (.struct fs) (K3 k.1 k.2.1 k.2.2) (entsK (p :: r) j) 0 = none := fun fs => findNowK _ _ _ (by simp [entsK]) fs
    simp [Instr.findKey, run_underlying h1, Result.andThen, hn, findAskingK]

theorem entsK_append : ∀ (l : List ((Int × Int × Int) × Int)) (p : (Int × Int × Int) × Int) (j : Nat), entsK (l ++ [p]) j = entsK l j ++ [entK p (j + l.length)]
  | [], p, j => by simp [entsK]
  | q :: r, p, j => by simp [entsK, entsK_append r p (j + 1)]; congr 1; omega
theorem wpList_mapPut {ops : Array Oper} {rest : List Oper} {o : Oper} {a : Act} {Q : Exit → Act → World → Prop} (w : World) (hg : o.guard = none) (m x v : Operand) (hop : o.op = Op.mapUpdate 108 m x v) (r : Nat) (l : List ((Int × Int × Int) × Int))
    (hm : a.eval m = .map (some r)) (hb : w.heap[r]? = some (.map (entsK l 0).toArray l.length)) (k : Int × Int × Int) (hx : a.eval x = K3 k.1 k.2.1 k.2.2) (t : Int) (hv : a.eval v = .int .i64 t) (hnew : findK k l 0 = none)
    (h : ∀ w' : World, w'.heap[r]? = some (.map (entsK (l ++ [(k, t)]) 0).toArray (l ++ [(k, t)]).length) → (∀ B, B ≤ r → Below B w w') → wpList Try.prog ops Q rest (a.put o.dst undef) w') : wpList Try.prog ops Q (o :: rest) a w := by
  have hf := findKeyK k w l 0
  rw [hnew] at hf
  have hc := checkK k.1 k.2.1 k.2.2 false w
  have hrun : (Instr.mapUpdate 108 (.map (some r)) (K3 k.1 k.2.1 k.2.2) (.int .i64 t)).run Try.prog w = .ok () { w with heap := w.heap.setIfInBounds r (.map ((entsK l 0).toArray.push { key := K3 k.1 k.2.1 k.2.2, val := .int .i64 t, born := l.length }) (l.length + 1)) } := by
    simp [Instr.mapUpdate, run_underlying Try.underlying108, MapKept.run_getObj_map hb, hc, hf, MapKept.run_setObj_map _ hb, Result.andThen]
  refine wpList_plain hg fun K hK => ?_
  unfold Oper.wp execOp
  simp only [hop, hm, hx, hv, Sem.run_bind, hrun, Result.andThen_ok]
  refine hK _ _ (h _ ?_ ?_)
  · have := (MapKept.heap_set (o' := .map ((entsK l 0).toArray.push { key := K3 k.1 k.2.1 k.2.2, val := .int .i64 t, born := l.length }) (l.length + 1)) hb).1
    rw [this, entsK_append]
    simp [entK]
  · intro B hB
    exact ⟨rfl, rfl, rfl, by simp, fun j hj => (MapKept.heap_set (o' := .map ((entsK l 0).toArray.push { key := K3 k.1 k.2.1 k.2.2, val := .int .i64 t, born := l.length }) (l.length + 1)) hb).2 j (by omega)⟩
theorem lookK (w : World) (r : Nat) (l : List ((Int × Int × Int) × Int)) (hb : w.heap[r]? = some (.map (entsK l 0).toArray l.length)) (k : Int × Int × Int) :
    (Instr.lookup 108 (.map (some r)) (K3 k.1 k.2.1 k.2.2) true).run Try.prog w = .ok (.tuple #[.int .i64 (match findK k l 0 with | some q => q.2 | none => 0), .bool (findK k l 0).isSome]) w := by
  have hf := findKeyK k w l 0
  have hc := fun e => checkK k.1 k.2.1 k.2.2 e w
  have hz := zeroInt
  cases hq : findK k l 0 with
  | none => rw [hq] at hf; simp [Instr.lookup, run_underlying Try.underlying108, MapKept.run_getObj_map hb, hc, hf, Result.andThen, Sem.run_pure, Sem.run_bind, hz]
  | some q => rw [hq] at hf; simp [Instr.lookup, run_underlying Try.underlying108, MapKept.run_getObj_map hb, hc, hf, Result.andThen, Sem.run_pure, Sem.run_bind]

/-- The kinds of vectors among the first i. -/
def vecs (i : Nat) : List ((Int × Int × Int) × Int) := ((List.range i).filter fun t => (kindRow t).1 == 3).map fun t => ((((kindRow t).1 : Int), ((kindRow t).2.1 : Int), ((kindRow t).2.2 : Int)), (t : Int))
theorem vecs_yes (i : Nat) (h : (kindRow i).1 = 3) : vecs (i + 1) = vecs i ++ [((((kindRow i).1 : Int), ((kindRow i).2.1 : Int), ((kindRow i).2.2 : Int)), (i : Int))] := by
  unfold vecs; rw [List.range_succ, List.filter_append, List.map_append]; simp [h]
theorem vecs_no (i : Nat) (h : (kindRow i).1 ≠ 3) : vecs (i + 1) = vecs i := by
  unfold vecs; rw [List.range_succ, List.filter_append, List.map_append]; simp [h]
theorem vecs_new : ∀ i, i < 37 → (kindRow i).1 = 3 → findK (((kindRow i).1 : Int), ((kindRow i).2.1 : Int), ((kindRow i).2.2 : Int)) (vecs i) 0 = none := by decide
def typedF (e m : Int) : Int × Bool := ((match findK (3, e, m) (vecs 37) 0 with | some q => q.2 | none => 0), (findK (3, e, m) (vecs 37) 0).isSome)
set_option maxRecDepth 100000 in
set_option maxHeartbeats 2000000 in
theorem typed_any (e m : Int) (w : World) :
    Calls Try.prog 58 #[.int .i64 e, .int .i64 m] w fun r w' => r = .returned (.tuple #[.int .i64 (typedF e m).1, .bool (typedF e m).2]) ∧ Grew w w' := by
  have hmm := fun w => run_makeMap_plain (P := Try.prog) w 108
  go_enter Try.func58, Try.ntmps58
  go_wp2_with fail
  refine (kinds_any _).mono ?_
  rintro r w1 ⟨rfl, hg⟩
  have H0 : Hid (w1.heap[w.heap.size]? = some (.map (entsK (vecs 0) 0).toArray (vecs 0).length) ∧ Below w.heap.size w w1) := ⟨Grew.heap hg (heap_alloc_new w _), ((Grew.refl w).alloc _).trans hg⟩
  clear hg
  generalize hM : w.heap.size = M at *
  go_wp2_with fail
  go_loopw [7, 8, 11] (fun _ _ i wr => ∃ k : Nat, k ≤ 37 ∧ i = .int .i64 k ∧ Hid (wr.heap[M]? = some (.map (entsK (vecs k) 0).toArray (vecs k).length) ∧ Below M w wr)) (fun _ _ i _ => 37 - (intOf i).toNat)
  case atStart => exact ⟨0, by omega, rfl, H0⟩
  case round =>
    obtain ⟨k, hk, rfl, HW⟩ := hrel
    clear H0
    by_cases hlt : k < 37
    · have hx := fun w' => run_index_agg (P := Try.prog) 99 78 37 3 kindsArr .i64 (k : Int) w' Try.underlying99 (aggKind w') (by kernel_rfl) (by omega) (by omega)
      rw [show ((k : Int)).toNat = k by omega, kindsArr_extract k hlt] at hx
      by_cases h3 : (kindRow k).1 = 3
      · have HY := Lib.hid (vecs_yes k h3)
        have HN := Lib.hid (vecs_new k hlt h3)
        generalize kindRow k = q at *
        obtain ⟨q1, q2, q3⟩ := q
        simp only at h3
        subst h3
        unfold cells3 at hx
        have HB1 : Hid ((wr.alloc (.cells #[.int .i64 3, .int .i64 q2, .int .i64 q3] 78)).heap[M]? = some (.map (entsK (vecs k) 0).toArray (vecs k).length)) := Grew.heap ((Grew.refl wr).alloc _) HW.out.1
        have HG := Lib.hid HW.out.2
        have hMw : M ≤ wr.heap.size := Nat.le_of_lt (Array.getElem?_eq_some_iff.1 HW.out.1).1
        clear HW
        go_wp2_with (refine wpList_mapPut _ rfl _ _ _ rfl M (vecs k) rfl HB1.out (((3 : Nat) : Int), (q2 : Int), (q3 : Int)) rfl k rfl HN.out ?_; intro w' hb' hbel; rw [← HY.out] at hb'; have HX := Lib.hid (And.intro hb' (Below.trans (Below.alloc HG.out hMw _) (hbel M (Nat.le_refl _)))); clear hb' hbel)
        go_wp2
        go_roundw
        case rel => exact ⟨k + 1, by omega, by go_num, HX⟩
        case measure => simp [intOf]; omega
      · have HY := Lib.hid (vecs_no k h3)
        have hb3 : (((kindRow k).1 : Int) == 3) = false := by rw [beq_eq_false_iff_ne]; omega
        have hMw : M ≤ wr.heap.size := Nat.le_of_lt (Array.getElem?_eq_some_iff.1 HW.out.1).1
        have HX : ∀ o : Obj, Hid ((wr.alloc o).heap[M]? = some (.map (entsK (vecs (k + 1)) 0).toArray (vecs (k + 1)).length) ∧ Below M w (wr.alloc o)) := fun o => by
          show _ ∧ _
          rw [HY.out]
          exact ⟨Grew.heap ((Grew.refl wr).alloc _) HW.out.1, Below.alloc HW.out.2 hMw _⟩
        have HXX := Lib.hid HX
        clear h3 HX HW
        generalize kindRow k = q at *
        obtain ⟨q1, q2, q3⟩ := q
        unfold cells3 at hx
        simp only at hb3
        go_wp2
        go_roundw
        case rel => exact ⟨k + 1, by omega, by go_num, HXX.out _⟩
        case measure => simp [intOf]; omega
    · obtain rfl : k = 37 := by omega
      have hl := lookK wr M (vecs 37) HW.out.1 (3, e, m)
      unfold K3 at hl
      have HT : Hid (typedF e m = ((match findK (3, e, m) (vecs 37) 0 with | some q => q.2 | none => 0), (findK (3, e, m) (vecs 37) 0).isSome)) := rfl
      simp only at hl
      generalize (match findK (3, e, m) (vecs 37) 0 with | some q => q.2 | none => 0) = rr at *
      generalize (findK (3, e, m) (vecs 37) 0).isSome = bb at *
      go_wp2
      go_ret2
      refine ⟨by rw [HT.out]; rfl, ?_⟩
      have := HW.out.2
      rw [← hM] at this
      exact this
end Go.Proofs.Ytajpbclcfjljnaa.Ft

/-
  Package vec: legal, low, elements, tags.
-/
namespace Go.Proofs.Ytajpbclcfjljnaa
open Go Go.ChangeShapes Go.WideShapes Go.ChangeAt Go.RowKit Go.Joins
open Go.Proofs.Ytajpbclcfjljnaa.Ft (V3 vV okV ValsAt inlineB legalB packF)
set_option linter.unusedVariables false
set_option linter.unusedSimpArgs false

def legalE (v : V3) : Int := if legalB v.1 then (if inlineB v.1 then 0 else if isW v.2.1 then 0 else 2) else 20
set_option maxHeartbeats 1000000 in
theorem legalV_any (v : V3) (w : World) : Calls Try.prog 56 #[vV v] w fun r w' => r = .returned (.int .i64 (legalE v)) ∧ Grew w w' := by
  obtain ⟨ty, wd, n⟩ := v
  have H0 : Hid (Grew w (w.alloc (.cells #[.int .i64 ty, .int .i64 wd, .int .u64 n] 30))) := (Grew.refl w).alloc _
  have h0 : (w.alloc (.cells #[.int .i64 ty, .int .i64 wd, .int .u64 n] 30)).cell? ⟨w.heap.size, 0, none⟩ = some (.int .i64 ty) := by go_simp
  have HC := Lib.hid h0
  clear h0
  show Calls Try.prog 56 #[.agg #[.int .i64 ty, .int .i64 wd, .int .u64 n]] w _
  by_cases hl : legalB ty = true
  · by_cases hi : inlineB ty = true
    · have HE : Hid (legalE (ty, wd, n) = 0) := by show _ = _; simp [legalE, hl, hi]
      by_cases hw : isW wd = true
      all_goals
      go_enter Try.func56, Try.ntmps56
      go_wp2_with fail
      first | refine (code_yes wd _ hw).mono ?_ | refine (code_no wd _ (by simpa using hw)).mono ?_
      rintro r w' ⟨⟨c, rfl⟩, rfl⟩
      go_wp2_with fail
      refine (Ft.legal_any ty _).mono ?_
      rw [hl]
      rintro r w1 ⟨rfl, hg⟩
      have c0 := hg.cell HC.out
      have HG := Lib.hid (H0.out.trans hg)
      clear hg
      go_wp2_with fail
      refine (Ft.inline_any ty _).mono ?_
      rw [hi]
      rintro r w2 ⟨rfl, hg⟩
      have HG2 := Lib.hid (HG.out.trans hg)
      clear hg
      go_wp2
      go_ret
      exact ⟨by rw [HE.out]; rfl, HG2.out⟩
    · have hi' : inlineB ty = false := by simpa using hi
      by_cases hw : isW wd = true
      · have HE : Hid (legalE (ty, wd, n) = 0) := by show _ = _; simp [legalE, hl, hi', hw]
        go_enter Try.func56, Try.ntmps56
        go_wp2_with fail
        refine (code_yes wd _ hw).mono ?_
        rintro r w' ⟨⟨c, rfl⟩, rfl⟩
        go_wp2_with fail
        refine (Ft.legal_any ty _).mono ?_
        rw [hl]
        rintro r w1 ⟨rfl, hg⟩
        have c0 := hg.cell HC.out
        have HG := Lib.hid (H0.out.trans hg)
        clear hg
        go_wp2_with fail
        refine (Ft.inline_any ty _).mono ?_
        rw [hi']
        rintro r w2 ⟨rfl, hg⟩
        have HG2 := Lib.hid (HG.out.trans hg)
        clear hg
        go_wp2
        go_ret
        exact ⟨by rw [HE.out]; rfl, HG2.out⟩
      · have HE : Hid (legalE (ty, wd, n) = 2) := by show _ = _; simp [legalE, hl, hi', hw]
        go_enter Try.func56, Try.ntmps56
        go_wp2_with fail
        refine (code_no wd _ (by simpa using hw)).mono ?_
        rintro r w' ⟨⟨c, rfl⟩, rfl⟩
        go_wp2_with fail
        refine (Ft.legal_any ty _).mono ?_
        rw [hl]
        rintro r w1 ⟨rfl, hg⟩
        have c0 := hg.cell HC.out
        have HG := Lib.hid (H0.out.trans hg)
        clear hg
        go_wp2_with fail
        refine (Ft.inline_any ty _).mono ?_
        rw [hi']
        rintro r w2 ⟨rfl, hg⟩
        have HG2 := Lib.hid (HG.out.trans hg)
        clear hg
        go_wp2
        go_ret
        exact ⟨by rw [HE.out]; rfl, HG2.out⟩
  · have hl' : legalB ty = false := by simpa using hl
    have HE : Hid (legalE (ty, wd, n) = 20) := by show _ = _; simp [legalE, hl']
    by_cases hw : isW wd = true
    all_goals
      go_enter Try.func56, Try.ntmps56
      go_wp2_with fail
      first | refine (code_yes wd _ hw).mono ?_ | refine (code_no wd _ (by simpa using hw)).mono ?_
      rintro r w' ⟨⟨c, rfl⟩, rfl⟩
      go_wp2_with fail
      refine (Ft.legal_any ty _).mono ?_
      rw [hl']
      rintro r w1 ⟨rfl, hg⟩
      have HG := Lib.hid (H0.out.trans hg)
      clear hg
      go_wp2
      go_ret
      exact ⟨by rw [HE.out]; rfl, HG.out⟩
/-- The w least significant bytes. -/
def lowF (n : Int) (x : Int) : Int := n % 2 ^ (8 * x.toNat)
theorem low_any (n x : Int) (w : World) (hx : isW x = true) (n0 : 0 ≤ n) (n1 : n ≤ 18446744073709551615) : Calls Try.prog 61 #[.int .u64 n, .int .i64 x] w fun r w' => r = .returned (.int .u64 (lowF n x)) ∧ w' = w := by
  rcases isW_cases hx with rfl | rfl | rfl | rfl
  all_goals
    clear hx
    go_enter Try.func61, Try.ntmps61
    go_wp2
    go_ret
    refine ⟨ret_int ?_, rfl⟩
    unfold lowF
    first
      | (show n = _; rw [Int.emod_eq_of_lt n0 (by simp; omega)])
      | (show IntKind.u64.wrap _ / _ = _
         simp [IntKind.wrap, IntKind.bits, IntKind.signed]
         omega)
theorem lowF_ok {n x : Int} (n0 : 0 ≤ n) (n1 : n ≤ 18446744073709551615) : 0 ≤ lowF n x ∧ lowF n x ≤ 18446744073709551615 := by
  unfold lowF
  have hp : (0 : Int) < 2 ^ (8 * x.toNat) := Int.pow_pos (by decide)
  exact ⟨Int.emod_nonneg _ (by omega), by have h1 := Int.emod_add_mul_ediv n (2 ^ (8 * x.toNat)); have h2 := Int.mul_nonneg (Int.le_of_lt hp) (Int.ediv_nonneg n0 (Int.le_of_lt hp)); omega⟩
theorem wrapU_lo (x : Int) : 0 ≤ IntKind.u64.wrap x := by simp [IntKind.wrap, IntKind.bits, IntKind.signed]; omega
theorem wrapU_hi (x : Int) : IntKind.u64.wrap x ≤ 18446744073709551615 := by simp [IntKind.wrap, IntKind.bits, IntKind.signed]; omega
def elemS (most x : Int) (s : St) (v : V3) : St := if inlineB v.1 then numS most x (lowF v.2.2 x) s else numS most x (IntKind.u64.wrap ((s.1.length : Int) - v.2.2)) s
def elemsS (most x : Int) (l : List V3) (s : St) : St := l.foldl (elemS most x) s
theorem elemS_le {most x : Int} {v : V3} {s : St} (h : (s.1.length : Int) ≤ most) : ((elemS most x s v).1.length : Int) ≤ most := by
  unfold elemS
  split
  · exact numS_le h
  · exact numS_le h
theorem elemsS_le {most x : Int} : ∀ (l : List V3) {s : St}, (s.1.length : Int) ≤ most → ((elemsS most x l s).1.length : Int) ≤ most
  | [], s, h => h
  | v :: r, s, h => elemsS_le r (elemS_le (v := v) h)
theorem elemsS_snoc (most x : Int) (l : List V3) (s : St) (k : Nat) (h : k < l.length) : elemsS most x (l.take (k + 1)) s = elemS most x (elemsS most x (l.take k) s) l[k] := by
  unfold elemsS
  rw [List.take_succ_eq_append_getElem h, List.foldl_append]; rfl
set_option maxRecDepth 100000 in
set_option maxHeartbeats 2000000 in
theorem elements_any {B : Nat} {w : World} {p : Nat} {o : Option Nat} {most : Int} (s : St) (x : Int) (lv : Value) (l : List V3) (hx : isW x = true) (h : BufAt B w p o s.1 most s.2) (hB : B ≤ w.heap.size) (hl : (s.1.length : Int) ≤ most) (hm1 : most ≤ 1048576)
    (hv : ValsAt w lv l) (hlen : l.length ≤ 1048576) (hok : ∀ v ∈ l, okV v) (hap : ∀ ad n c, lv = .slice (some ad) n c → ¬ Own2 p o ad.block) :
    Calls Try.prog 34 #[bptr p, .int .i64 x, lv] w fun r w' => r = .returned (.tuple #[]) ∧ TurnB B w w' p o most (elemsS most x l s) := by
  have HB0 := Lib.hid h
  have HX := Lib.hid hx
  have HA := Lib.hid hap
  have HOK := Lib.hid hok
  obtain ⟨a, c, rfl, hcell⟩ := hv
  have HC := Lib.hid hcell
  clear h hx hap hok hcell
  go_enter Try.func34, Try.ntmps34
  go_wp2_with fail
  go_loopw [7, 10] (fun _ i wr => ∃ k : Nat, k ≤ l.length ∧ i = .int .i64 k ∧ Hid (TurnB B w wr p o most (elemsS most x (l.take k) s))) (fun _ i _ => l.length - (intOf i).toNat)
  case atStart => exact ⟨0, Nat.zero_le _, rfl, TurnB.refl HB0.out⟩
  case round =>
    obtain ⟨k, hk, rfl, HW⟩ := hrel
    by_cases hlt : k < l.length
    · obtain ⟨bl, off, rfl, q0, q1, q2⟩ := HC.out k l[k] (List.getElem?_eq_getElem hlt)
      have hnb : ¬ Own2 p o bl := HA.out ⟨bl, off, none⟩ _ _ rfl
      obtain ⟨o1, k1, k2, k3⟩ := HW.out
      have d0 := k3.cell q0 hnb
      have d1 := k3.cell q1 hnb
      have d2 := k3.cell q2 hnb
      have HSN := Lib.hid (elemsS_snoc most x l s k hlt)
      have hv := HOK.out l[k] (List.getElem_mem hlt)
      have HLE := Lib.hid (elemsS_le (x := x) (l.take k) hl)
      have hBr : B ≤ wr.heap.size := Nat.le_trans hB k3.size
      have HBR := Lib.hid hBr
      have HB1 := Lib.hid k1
      have HK := Lib.hid (And.intro k2 k3)
      generalize elemsS most x (l.take k) s = s0 at *
      generalize l[k] = v at *
      obtain ⟨ty, wd, vn⟩ := v
      simp only at d0 d1 d2
      have hvn := hv
      obtain ⟨n0, n1⟩ := hv
      clear k1 k2 k3 q0 q1 q2 HW hBr hvn
      simp only at n0 n1
      by_cases hi : inlineB ty = true
      · go_wp2_with fail
        refine (Ft.inline_any ty _).mono ?_
        rw [hi]
        rintro r w1 ⟨rfl, hg⟩
        have HEL : Hid (elemS most x s0 (ty, wd, vn) = numS most x (lowF vn x) s0) := by show _ = _; simp [elemS, hi]
        have cn : w1.cell? ⟨wr.heap.size, 2, none⟩ = some (.int .u64 vn) := hg.cell (by go_simp)
        have HG2 := Lib.hid (((Grew.refl wr).alloc _).trans hg)
        clear hg hi
        go_wp2_with fail
        refine (low_any vn x _ HX.out n0 n1).mono ?_
        rintro r w2 ⟨rfl, rfl⟩
        go_wp2_with fail
        refine (num_any s0 x (lowF vn x) (HB1.out.grew HG2.out) (Nat.le_trans HBR.out HG2.out.size) HLE.out hm1 (lowF_ok n0 n1).1 (lowF_ok n0 n1).2).mono ?_
        rintro r w5 ⟨rfl, ht⟩
        have HT := Lib.hid (TurnB.after HG2.out ht)
        clear ht
        go_wp2
        go_roundw
        case rel =>
          have hT := HT.out
          rw [← HEL.out, ← HSN.out] at hT
          obtain ⟨o2, t1, t2, t3⟩ := hT
          exact ⟨k + 1, by omega, by go_num, o2, t1, HK.out.1.trans t2 HK.out.2.size, HK.out.2.own HK.out.1 t3⟩
        case measure => simp [intOf]; omega
      · have hi' : inlineB ty = false := by simpa using hi
        have HEL : Hid (elemS most x s0 (ty, wd, vn) = numS most x (IntKind.u64.wrap ((s0.1.length : Int) - vn)) s0) := by show _ = _; simp [elemS, hi']
        go_wp2_with fail
        refine (Ft.inline_any ty _).mono ?_
        rw [hi']
        rintro r w1 ⟨rfl, hg⟩
        have cn : w1.cell? ⟨wr.heap.size, 2, none⟩ = some (.int .u64 vn) := hg.cell (by go_simp)
        have HG2 := Lib.hid (((Grew.refl wr).alloc _).trans hg)
        have HB := Lib.hid (HB1.out.grew HG2.out)
        have HBS := Lib.hid (Nat.le_trans HBR.out HG2.out.size)
        have hs0 : s0.1.length ≤ 1048576 := by have := HLE.out; omega
        have hwl : IntKind.u64.wrap (s0.1.length : Int) = (s0.1.length : Int) := by simp [IntKind.wrap, IntKind.bits, IntKind.signed]; omega
        clear hg hi hi'
        go_wp2_with fail
        refine wp_region_last Grew [[], [], [], [2], [3], [], [5], [4, 6], [0, 1, 7]] [[(25, 1), (26, 2), (27, 3), (28, 4), (29, 5), (30, 6), (31, 7)], [(24, 0), (26, 2), (27, 3), (28, 4), (29, 5), (30, 6), (31, 7)], [(24, 0), (25, 1), (28, 4), (29, 5), (30, 6), (31, 7), (32, 8)], [(24, 0), (25, 1), (26, 2), (29, 5), (30, 6), (31, 7), (32, 8)], [(24, 0), (25, 1), (26, 2), (27, 3), (29, 5), (30, 6), (32, 8)], [(24, 0), (25, 1), (26, 2), (27, 3), (28, 4), (31, 7), (32, 8)], [(24, 0), (25, 1), (26, 2), (27, 3), (28, 4), (29, 5), (32, 8)], [(24, 0), (25, 1), (26, 2), (27, 3), (28, 4), (29, 5), (30, 6)], [(24, 0), (25, 1), (26, 2), (27, 3), (28, 4), (29, 5), (30, 6), (31, 7)]]
          [Is (bptr p), Is (.int .i64 x), Is (bptr p), Is (.int .i64 (s0.1.length : Int)), Is (.int .u64 (s0.1.length : Int)), Is (.pointer (some ⟨wr.heap.size, 2, none⟩)), Is (.int .u64 vn), Is (.int .u64 (IntKind.u64.wrap ((s0.1.length : Int) - vn)))]
          (by kernel_rfl) Grew.trans Grew.refl (Grew.refl _).drew (by kernel_rfl) ⟨is_st, is_st, is_st, is_st, is_st, is_st, is_st, is_st, trivial⟩ rfl ⟨?_, ?_, ?_, ?_, ?_, ?_, ?_, ?_, trivial⟩ ?_ rfl
        · intro y w2 hG hD K hK
          simp only [fillL, Act.put, List.setIfInBounds_toArray, List.set_cons_zero, List.set_cons_succ, List.getD_cons_zero, List.getD_cons_succ, Is] at hK ⊢
          refine ite_yes (by rfl) ?_
          go_simp
          exact hK _ _ _ rfl (Grew.refl _) rfl
        · intro y w2 hG hD K hK
          simp only [fillL, Act.put, List.setIfInBounds_toArray, List.set_cons_zero, List.set_cons_succ, List.getD_cons_zero, List.getD_cons_succ, Is] at hK ⊢
          refine ite_yes (by rfl) ?_
          go_simp
          exact hK _ _ _ rfl (Grew.refl _) rfl
        · intro y w2 hG hD K hK
          simp only [fillL, Act.put, List.setIfInBounds_toArray, List.set_cons_zero, List.set_cons_succ, List.getD_cons_zero, List.getD_cons_succ, Is] at hK ⊢
          refine ite_yes (by rfl) ?_
          go_simp
          exact hK _ _ _ rfl (Grew.refl _) rfl
        · intro y w2 hG hD K hK
          simp only [depsH, List.getD_cons_zero, List.getD_cons_succ, Is, and_true] at hD
          have h2 := hD
          clear hD
          simp only [fillL, Act.put, List.setIfInBounds_toArray, List.set_cons_zero, List.set_cons_succ, List.getD_cons_zero, List.getD_cons_succ, Is] at hK ⊢
          rw [h2] at hK ⊢
          clear h2
          refine ite_yes (by rfl) ?_
          go_simp
          refine (len_any (HB.out.grew hG)).mono ?_
          rintro r w3 ⟨rfl, rfl⟩
          exact hK _ _ _ rfl (Grew.refl _) rfl
        · intro y w2 hG hD K hK
          simp only [depsH, List.getD_cons_zero, List.getD_cons_succ, Is, and_true] at hD
          have h3 := hD
          clear hD
          simp only [fillL, Act.put, List.setIfInBounds_toArray, List.set_cons_zero, List.set_cons_succ, List.getD_cons_zero, List.getD_cons_succ, Is] at hK ⊢
          rw [h3] at hK ⊢
          clear h3
          refine ite_yes (by rfl) ?_
          go_simp
          exact hK _ _ _ rfl (Grew.refl _) rfl
        · intro y w2 hG hD K hK
          simp only [fillL, Act.put, List.setIfInBounds_toArray, List.set_cons_zero, List.set_cons_succ, List.getD_cons_zero, List.getD_cons_succ, Is] at hK ⊢
          refine ite_yes (by rfl) ?_
          go_simp
          exact hK _ _ _ rfl (Grew.refl _) rfl
        · intro y w2 hG hD K hK
          simp only [depsH, List.getD_cons_zero, List.getD_cons_succ, Is, and_true] at hD
          have h5 := hD
          clear hD
          have dcn := hG.cell cn
          simp only [fillL, Act.put, List.setIfInBounds_toArray, List.set_cons_zero, List.set_cons_succ, List.getD_cons_zero, List.getD_cons_succ, Is] at hK ⊢
          rw [h5] at hK ⊢
          clear h5
          refine ite_yes (by rfl) ?_
          go_simp
          exact hK _ _ _ rfl (Grew.refl _) rfl
        · intro y w2 hG hD K hK
          simp only [depsH, List.getD_cons_zero, List.getD_cons_succ, Is, and_true] at hD
          have h4 := hD.1
          have h6 := hD.2
          clear hD
          simp only [fillL, Act.put, List.setIfInBounds_toArray, List.set_cons_zero, List.set_cons_succ, List.getD_cons_zero, List.getD_cons_succ, Is] at hK ⊢
          rw [h4, h6] at hK ⊢
          clear h4 h6
          refine ite_yes (by rfl) ?_
          go_simp
          exact hK _ _ _ rfl (Grew.refl _) rfl
        · intro y w2 hG hF K hK
          simp only [factsH, Is, and_true, Nat.reduceAdd] at hF
          have h0 := hF.1
          have h1 := hF.2.1
          have h2 := hF.2.2.1
          have h3 := hF.2.2.2.1
          have h4 := hF.2.2.2.2.1
          have h5 := hF.2.2.2.2.2.1
          have h6 := hF.2.2.2.2.2.2.1
          have h7 := hF.2.2.2.2.2.2.2
          clear hF
          simp only [lastOf]
          simp only [fillL, Act.put, List.setIfInBounds_toArray, List.set_cons_zero, List.set_cons_succ, List.getD_cons_zero, List.getD_cons_succ, Is] at hK ⊢
          rw [h0, h1, h2, h3, h4, h5, h6, h7]
          clear h0 h1 h2 h3 h4 h5 h6 h7
          refine ite_yes (by rfl) ?_
          go_simp
          refine (num_any s0 x (IntKind.u64.wrap ((s0.1.length : Int) - vn)) (HB.out.grew hG) (Nat.le_trans HBS.out hG.size) HLE.out hm1 (wrapU_lo _) (wrapU_hi _)).mono ?_
          rintro r w5 ⟨rfl, ht⟩
          refine hK _ _ ?_
          have HT := Lib.hid (TurnB.after HG2.out (TurnB.after hG ht))
          clear ht
          go_wp2
          go_roundw
          case rel =>
            have hT := HT.out
            rw [← HEL.out, ← HSN.out] at hT
            obtain ⟨o2, t1, t2, t3⟩ := hT
            exact ⟨k + 1, by omega, by go_num, o2, t1, HK.out.1.trans t2 HK.out.2.size, HK.out.2.own HK.out.1 t3⟩
          case measure => simp [intOf]; omega
    · have e : k = l.length := by omega
      have HF : Hid (TurnB B w wr p o most (elemsS most x l s)) := by
        have := HW.out
        rw [e, List.take_length] at this
        exact this
      clear HW
      go_wp2
      go_end0
      exact ⟨rfl, HF.out⟩
end Go.Proofs.Ytajpbclcfjljnaa

/-
  Package vec: tags.
-/
namespace Go.Proofs.Ytajpbclcfjljnaa
open Go Go.ChangeShapes Go.WideShapes Go.ChangeAt Go.RowKit Go.Joins
open Go.Proofs.Ytajpbclcfjljnaa.Ft (V3 vV okV ValsAt inlineB legalB packF codeF)
set_option linter.unusedVariables false
set_option linter.unusedSimpArgs false

def tagB (x : Int) (v : V3) : UInt8 := UInt8.ofNat (packF v.1 (if inlineB v.1 then x else v.2.1)).1.toNat
def tagS (most x : Int) (s : St) (v : V3) : St := putS most (bytesS [⟨#[tagB x v]⟩]) s
def tagsS (most x : Int) (l : List V3) (s : St) : St := l.foldl (tagS most x) s
theorem tagsS_le {most x : Int} : ∀ (l : List V3) {s : St}, (s.1.length : Int) ≤ most → ((tagsS most x l s).1.length : Int) ≤ most
  | [], s, h => h
  | v :: r, s, h => tagsS_le r (putS_le h)
theorem tagsS_snoc (most x : Int) (l : List V3) (s : St) (k : Nat) (h : k < l.length) : tagsS most x (l.take (k + 1)) s = tagS most x (tagsS most x (l.take k) s) l[k] := by
  unfold tagsS
  rw [List.take_succ_eq_append_getElem h, List.foldl_append]; rfl
theorem pack_range (t x : Int) : 0 ≤ (packF t x).1 ∧ (packF t x).1 ≤ 255 := by
  unfold packF
  split
  · rename_i h
    have := Ft.legal_range h
    rcases Ft.codeF_cases x with e | e | e | e | e <;> rw [e] <;> simp <;> omega
  · simp
set_option maxRecDepth 100000 in
set_option maxHeartbeats 2000000 in
theorem tags_any {B : Nat} {w : World} {p : Nat} {o : Option Nat} {most : Int} (s : St) (x : Int) (lv : Value) (l : List V3) (h : BufAt B w p o s.1 most s.2) (hB : B ≤ w.heap.size) (hl : (s.1.length : Int) ≤ most) (hm1 : most ≤ 1048576)
    (hv : ValsAt w lv l) (hlen : l.length ≤ 1048576) (hap : ∀ ad n c, lv = .slice (some ad) n c → ¬ Own2 p o ad.block) :
    Calls Try.prog 57 #[bptr p, .int .i64 x, lv] w fun r w' => r = .returned (.tuple #[]) ∧ TurnB B w w' p o most (tagsS most x l s) := by
  have HB0 := Lib.hid h
  have HA := Lib.hid hap
  obtain ⟨a, c, rfl, hcell⟩ := hv
  have HC := Lib.hid hcell
  clear h hap hcell
  go_enter Try.func57, Try.ntmps57
  go_wp2_with fail
  go_loopw [13] (fun i wr => ∃ k : Nat, k ≤ l.length ∧ i = .int .i64 k ∧ Hid (TurnB B w wr p o most (tagsS most x (l.take k) s))) (fun i _ => l.length - (intOf i).toNat)
  case atStart => exact ⟨0, Nat.zero_le _, rfl, TurnB.refl HB0.out⟩
  case round =>
    obtain ⟨k, hk, rfl, HW⟩ := hrel
    by_cases hlt : k < l.length
    · obtain ⟨bl, off, rfl, q0, q1, q2⟩ := HC.out k l[k] (List.getElem?_eq_getElem hlt)
      have hnb : ¬ Own2 p o bl := HA.out ⟨bl, off, none⟩ _ _ rfl
      obtain ⟨o1, k1, k2, k3⟩ := HW.out
      have d0 := k3.cell q0 hnb
      have d1 := k3.cell q1 hnb
      have d2 := k3.cell q2 hnb
      have HSN := Lib.hid (tagsS_snoc most x l s k hlt)
      have HLE := Lib.hid (tagsS_le (x := x) (l.take k) hl)
      have hBr : B ≤ wr.heap.size := Nat.le_trans hB k3.size
      have HBR := Lib.hid hBr
      have HB1 := Lib.hid k1
      have HK := Lib.hid (And.intro k2 k3)
      generalize tagsS most x (l.take k) s = s0 at *
      generalize l[k] = v at *
      obtain ⟨ty, wd, vn⟩ := v
      simp only at d0 d1 d2
      clear k1 k2 k3 q0 q1 q2 HW hBr
      by_cases hi : inlineB ty = true
      · go_wp2_with fail
        refine (Ft.inline_any ty _).mono ?_
        rw [hi]
        rintro r w1 ⟨rfl, hg⟩
        have c0 : w1.cell? ⟨wr.heap.size, 0, none⟩ = some (.int .i64 ty) := hg.cell (by go_simp)
        have HG1 := Lib.hid (((Grew.refl wr).alloc _).trans hg)
        clear hg
        go_wp2_with fail
        refine (Ft.pack_any ty x _).mono ?_
        rintro r w2 ⟨rfl, hg⟩
        have HG2 := Lib.hid (HG1.out.trans hg)
        have HTB : Hid (tagB x (ty, wd, vn) = UInt8.ofNat (packF ty x).1.toNat) := by show _ = _; simp [tagB, hi]
        have hpk := pack_range ty x
        have hb8 : (packF ty x).1 = ((UInt8.ofNat (packF ty x).1.toNat).toNat : Int) := by rw [UInt8.toNat_ofNat']; omega
        have HSZ := Lib.hid HG2.out.size
        generalize packF ty x = pk at *
        clear hg c0 hpk
        have hst := str_of_bytes (one_byte w2 pk.1 (UInt8.ofNat pk.1.toNat) hb8)
        clear hb8
        go_wp2_with fail
        refine (textNew1 s0 ⟨#[UInt8.ofNat pk.1.toNat]⟩ _ (by simp) (HB1.out.grew (HG2.out.alloc _)) (Nat.le_trans HBR.out (HG2.out.alloc _).size) HLE.out hm1 (show (1 : Nat) + 0 ≤ 1073741824 by decide)).mono ?_
        rintro r w5 ⟨rfl, ht⟩
        have HT := Lib.hid (TurnB.after (HG2.out.alloc _) ht)
        clear ht hst
        go_wp2
        go_roundw
        case rel =>
          have hT := HT.out
          rw [← HTB.out] at hT
          have e : tagsS most x (l.take (k + 1)) s = putS most (bytesS [⟨#[tagB x (ty, wd, vn)]⟩]) s0 := HSN.out
          rw [← e] at hT
          obtain ⟨o2, t1, t2, t3⟩ := hT
          exact ⟨k + 1, by omega, by go_num, o2, t1, HK.out.1.trans t2 HK.out.2.size, HK.out.2.own HK.out.1 t3⟩
        case measure => simp [intOf]; omega
      · have hi' : inlineB ty = false := by simpa using hi
        go_wp2_with fail
        refine (Ft.inline_any ty _).mono ?_
        rw [hi']
        rintro r w1 ⟨rfl, hg⟩
        have c0 : w1.cell? ⟨wr.heap.size, 0, none⟩ = some (.int .i64 ty) := hg.cell (by go_simp)
        have HG1 := Lib.hid (((Grew.refl wr).alloc _).trans hg)
        clear hg
        go_wp2_with fail
        refine (Ft.pack_any ty wd _).mono ?_
        rintro r w2 ⟨rfl, hg⟩
        have HG2 := Lib.hid (HG1.out.trans hg)
        have HTB : Hid (tagB x (ty, wd, vn) = UInt8.ofNat (packF ty wd).1.toNat) := by show _ = _; simp [tagB, hi']
        have hpk := pack_range ty wd
        have hb8 : (packF ty wd).1 = ((UInt8.ofNat (packF ty wd).1.toNat).toNat : Int) := by rw [UInt8.toNat_ofNat']; omega
        have HSZ := Lib.hid HG2.out.size
        generalize packF ty wd = pk at *
        clear hg c0 hpk
        have hst := str_of_bytes (one_byte w2 pk.1 (UInt8.ofNat pk.1.toNat) hb8)
        clear hb8
        go_wp2_with fail
        refine (textNew1 s0 ⟨#[UInt8.ofNat pk.1.toNat]⟩ _ (by simp) (HB1.out.grew (HG2.out.alloc _)) (Nat.le_trans HBR.out (HG2.out.alloc _).size) HLE.out hm1 (show (1 : Nat) + 0 ≤ 1073741824 by decide)).mono ?_
        rintro r w5 ⟨rfl, ht⟩
        have HT := Lib.hid (TurnB.after (HG2.out.alloc _) ht)
        clear ht hst
        go_wp2
        go_roundw
        case rel =>
          have hT := HT.out
          rw [← HTB.out] at hT
          have e : tagsS most x (l.take (k + 1)) s = putS most (bytesS [⟨#[tagB x (ty, wd, vn)]⟩]) s0 := HSN.out
          rw [← e] at hT
          obtain ⟨o2, t1, t2, t3⟩ := hT
          exact ⟨k + 1, by omega, by go_num, o2, t1, HK.out.1.trans t2 HK.out.2.size, HK.out.2.own HK.out.1 t3⟩
        case measure => simp [intOf]; omega
    · have e : k = l.length := by omega
      have HF : Hid (TurnB B w wr p o most (tagsS most x l s)) := by
        have := HW.out
        rw [e, List.take_length] at this
        exact this
      clear HW
      go_wp2
      go_end0
      exact ⟨rfl, HF.out⟩
/-- The closure that takes the values of a typed vector. -/
def takesE (elem : Int) (v : V3) : Int := if legalB v.1 && decide (v.1 ≠ elem) then 60 else legalE v
set_option maxHeartbeats 1000000 in
theorem takes_any (elem : Int) (v : V3) (pa : Addr) (w : World) (he : w.cell? pa = some (.int .i64 elem)) : Calls Try.prog 59 #[vV v, .pointer (some pa)] w fun r w' => r = .returned (.int .i64 (takesE elem v)) ∧ Grew w w' := by
  obtain ⟨ty, wd, n⟩ := v
  have H0 : Hid (Grew w (w.alloc (.cells #[.int .i64 ty, .int .i64 wd, .int .u64 n] 30))) := (Grew.refl w).alloc _
  show Calls Try.prog 59 #[.agg #[.int .i64 ty, .int .i64 wd, .int .u64 n], .pointer (some pa)] w _
  go_enter Try.func59, Try.ntmps59
  go_wp2_with fail
  refine (Ft.legal_any ty _).mono ?_
  by_cases hl : legalB ty = true
  · rw [hl]
    rintro r w1 ⟨rfl, hg⟩
    have c0 : w1.cell? ⟨w.heap.size, 0, none⟩ = some (.int .i64 ty) := hg.cell (by go_simp)
    have c1 : w1.cell? ⟨w.heap.size, 1, none⟩ = some (.int .i64 wd) := hg.cell (by go_simp)
    have c2 : w1.cell? ⟨w.heap.size, 2, none⟩ = some (.int .u64 n) := hg.cell (by go_simp)
    have ce : w1.cell? pa = some (.int .i64 elem) := hg.cell (H0.out.cell he)
    have HG := Lib.hid (H0.out.trans hg)
    clear hg
    by_cases hne : ty = elem
    · have HE : Hid (takesE elem (ty, wd, n) = legalE (ty, wd, n)) := by show _ = _; simp [takesE, hne]
      subst hne
      go_wp2_with fail
      refine (legalV_any (ty, wd, n) _).mono ?_
      rintro r w2 ⟨rfl, hg⟩
      have HG2 := Lib.hid (HG.out.trans hg)
      clear hg
      go_wp2
      go_ret
      exact ⟨by rw [HE.out]; rfl, HG2.out⟩
    · have HE : Hid (takesE elem (ty, wd, n) = 60) := by show _ = _; simp [takesE, hl, hne]
      go_wp2
      go_ret
      exact ⟨by rw [HE.out]; rfl, HG.out⟩
  · have hl' : legalB ty = false := by simpa using hl
    rw [hl']
    rintro r w1 ⟨rfl, hg⟩
    have c0 : w1.cell? ⟨w.heap.size, 0, none⟩ = some (.int .i64 ty) := hg.cell (by go_simp)
    have c1 : w1.cell? ⟨w.heap.size, 1, none⟩ = some (.int .i64 wd) := hg.cell (by go_simp)
    have c2 : w1.cell? ⟨w.heap.size, 2, none⟩ = some (.int .u64 n) := hg.cell (by go_simp)
    have HE : Hid (takesE elem (ty, wd, n) = legalE (ty, wd, n)) := by show _ = _; simp [takesE, hl']
    have HG := Lib.hid (H0.out.trans hg)
    clear hg
    go_wp2_with fail
    refine (legalV_any (ty, wd, n) _).mono ?_
    rintro r w2 ⟨rfl, hg⟩
    have HG2 := Lib.hid (HG.out.trans hg)
    clear hg
    go_wp2
    go_ret
    exact ⟨by rw [HE.out]; rfl, HG2.out⟩
abbrev fnv (k : Nat) (cap : Array Value) : Value := .func (.func k) #[] cap
theorem shaped_un (w : World) : Calls Try.prog 33 #[.int .i64 (-1), .int .i64 0] w fun r w' => r = .returned (.tuple #[.agg #[.int .i64 10, .bool true, fnv 56 #[], fnv 57 #[]], .int .i64 0]) ∧ Grew w w' := by
  go_enter Try.func33, Try.ntmps33
  go_wp2
  refine bodyPost_ret (v := .tuple #[.agg #[.int .i64 10, .bool true, fnv 56 #[], fnv 57 #[]], .int .i64 0]) ?_ rfl ⟨rfl, ?_⟩
  · simp [results, Try.results33, go_sem, fnv]
  · exact ((Grew.refl w).alloc _).alloc _
end Go.Proofs.Ytajpbclcfjljnaa

/-
  Package le: within, Load.
-/
namespace Go.Proofs.Ytajpbclcfjljnaa
open Go Go.ChangeShapes Go.WideShapes Go.ChangeAt Go.RowKit Go.Joins
set_option linter.unusedVariables false
set_option linter.unusedSimpArgs false

theorem row_cell1 {w : World} {p : Nat} {cs : Array Value} {t : TypeId} (h : w.heap[p]? = some (.cells cs t (0, 0))) (k : Nat) (v : Value) (hv : cs[k]? = some v) : w.cell? ⟨p, k, none⟩ = some v := by
  simp [World.cell?, h, hv]
def loadF (l : List UInt8) (at_ x : Int) : Int × Int := if isW x = true then (if at_ < 0 ∨ at_ > l.length - x then (0, 6) else (leF ((l.drop at_.toNat).take x.toNat), 0)) else (0, 2)
theorem bytes_cut {w : World} {bl off : Nat} {c : Nat} {l : List UInt8} (hb : BytesAt w (.slice (some ⟨bl, off, none⟩) l.length c) l) (k x c2 : Nat) (h : k + x ≤ l.length) (hc : x ≤ c2) : BytesAt w (.slice (some ⟨bl, off + k, none⟩) x c2) ((l.drop k).take x) := by
  obtain ⟨a, c', e, _, _, h4⟩ := hb
  cases e
  refine ⟨some ⟨bl, off + k, none⟩, c2, by simp; omega, by simp; omega, fun h => (by cases h), fun i b hi => ?_⟩
  rw [List.getElem?_take] at hi
  split at hi
  · rw [List.getElem?_drop] at hi
    obtain ⟨bl', off', e, hcell⟩ := h4 (k + i) b hi
    cases e
    exact ⟨bl, off + k, rfl, by rw [Nat.add_assoc]; exact hcell⟩
  · cases hi
set_option maxRecDepth 100000 in
set_option maxHeartbeats 1000000 in
theorem within_any {w : World} (sv : Value) (l : List UInt8) (hb : BytesAt w sv l) (hlen : l.length ≤ 1073741824) (at_ x : Int) (ha : -4611686018427387904 ≤ at_ ∧ at_ ≤ 4611686018427387904) (pa : Nat) (hp : w.heap[pa]? = some (.cells #[.int .u64 0] 28)) (hap : ∀ ad n c, sv = .slice (some ad) n c → ad.block ≠ pa) :
    Calls Try.prog 41 #[sv, .int .i64 at_, .int .i64 x, fnv 42 #[.pointer (some ⟨pa, 0, none⟩)]] w fun r w' => r = .returned (.int .i64 (loadF l at_ x).2) ∧ w'.heap[pa]? = some (.cells #[.int .u64 (loadF l at_ x).1] 28) ∧ Moved (fun b => b = pa) w w' := by
  have HB0 := Lib.hid hb
  have HA := Lib.hid hap
  have HP := Lib.hid hp
  obtain ⟨a, c, rfl, hcell⟩ := hb
  have hc := hcell.1
  have HC := Lib.hid hcell.2.2
  clear hap hcell hp
  unfold loadF
  by_cases hx : isW x = true
  · rw [if_pos hx]
    have HX := Lib.hid hx
    by_cases hr : at_ < 0 ∨ at_ > l.length - x
    · rw [if_pos hr]
      have hx1 : 1 ≤ x ∧ x ≤ 8 := by rcases isW_cases hx with rfl | rfl | rfl | rfl <;> omega
      go_enter Try.func41, Try.ntmps41
      go_wp2_with fail
      refine (leis_any x _).mono ?_
      rw [HX.out]
      rintro r w1 ⟨rfl, rfl⟩
      by_cases h0 : at_ < 0
      · go_wp2
        go_ret
        exact ⟨rfl, HP.out, Moved.refl _ _⟩
      · have h1 : (l.length : Int) - x < at_ := by omega
        go_wp2
        go_ret
        exact ⟨rfl, HP.out, Moved.refl _ _⟩
    · rw [if_neg hr]
      have hx1 : 1 ≤ x ∧ x ≤ 8 := by rcases isW_cases hx with rfl | rfl | rfl | rfl <;> omega
      obtain ⟨k, rfl⟩ := Int.eq_ofNat_of_zero_le (show 0 ≤ at_ by omega)
      obtain ⟨y, rfl⟩ := Int.eq_ofNat_of_zero_le (show 0 ≤ x by omega)
      have hky : k + y ≤ l.length := by omega
      obtain ⟨bl, off, rfl, _⟩ := HC.out 0 l[0] (List.getElem?_eq_getElem (by omega))
      go_enter Try.func41, Try.ntmps41
      go_wp2_with fail
      refine (leis_any y _).mono ?_
      rw [HX.out]
      rintro r w1 ⟨rfl, rfl⟩
      go_wp2_with fail
      refine (load1_any _ ((l.drop k).take y) (bytes_cut HB0.out k y (c - k) hky (by omega)) (by simp; omega) pa HP.out (fun ad n c' e => by cases e; exact HA.out ⟨bl, off, none⟩ _ _ rfl)).mono ?_
      rintro r w2 ⟨rfl, hrow, hm⟩
      have HR := Lib.hid hrow
      have HM := Lib.hid hm
      clear hrow hm
      go_wp2
      go_ret
      exact ⟨rfl, by simpa using HR.out, HM.out⟩
  · rw [if_neg hx]
    have HX := Lib.hid (show isW x = false by simpa using hx)
    clear hx
    go_enter Try.func41, Try.ntmps41
    go_wp2_with fail
    refine (leis_any x _).mono ?_
    rw [HX.out]
    rintro r w1 ⟨rfl, rfl⟩
    go_wp2
    go_ret
    exact ⟨rfl, HP.out, Moved.refl _ _⟩
set_option maxRecDepth 100000 in
set_option maxHeartbeats 1000000 in
theorem load_any {w : World} (sv : Value) (l : List UInt8) (hb : BytesAt w sv l) (hlen : l.length ≤ 1073741824) (at_ x : Int) (ha : -4611686018427387904 ≤ at_ ∧ at_ ≤ 4611686018427387904) (hap : ∀ ad n c, sv = .slice (some ad) n c → ad.block < w.heap.size) :
    Calls Try.prog 21 #[sv, .int .i64 at_, .int .i64 x] w fun r w' => r = .returned (.tuple #[.int .u64 (loadF l at_ x).1, .int .i64 (loadF l at_ x).2]) ∧ Grew w w' := by
  have HB0 := Lib.hid hb
  have HA := Lib.hid hap
  have hmf : ∀ (fn : Fn) (first cap : Array Value) (w : World), (Instr.makeFunc fn first cap).run Try.prog w = .ok (.func fn first cap) w := fun _ _ _ _ => rfl
  obtain ⟨a, c, rfl, hcell⟩ := hb
  clear hap hcell
  go_enter Try.func21, Try.ntmps21
  go_wp2_with fail
  refine (within_any _ l (HB0.out.grew ((Grew.refl w).alloc _)) hlen at_ x ha w.heap.size (heap_alloc_new _ _) (fun ad n c' e => by have := HA.out ad n c' e; omega)).mono ?_
  rintro r w2 ⟨rfl, hrow, hm⟩
  have g0 : w2.cell? ⟨w.heap.size, 0, none⟩ = some (.int .u64 (loadF l at_ x).1) := row_cell1 hrow 0 _ rfl
  have f0 := row_frozen hrow 0
  have HM := Lib.hid hm
  clear hrow hm
  obtain ⟨q, hq⟩ : ∃ q, q = loadF l at_ x := ⟨_, rfl⟩
  rw [← hq] at g0 ⊢
  have hm2 : Moved (fun b => b = w.heap.size) w w2 := ((Moved.refl _ w).alloc _).trans HM.out (fun _ _ h => h)
  have HG : Hid (Grew w w2) := hm2.below (Nat.le_refl _) (fun k e => by omega)
  clear hm2
  go_wp2
  refine bodyPost_ret (v := .tuple #[.int .u64 q.1, .int .i64 q.2]) ?_ rfl ⟨by rw [hq], ?_⟩
  · simp [results, Try.results21, go_sem, g0, hq]
  · exact HG.out.setCell (Nat.le_refl _) _
end Go.Proofs.Ytajpbclcfjljnaa

/-
  Package le: LoadInt.
-/
namespace Go.Proofs.Ytajpbclcfjljnaa
open Go Go.ChangeShapes Go.WideShapes Go.ChangeAt Go.RowKit Go.Joins
set_option linter.unusedVariables false
set_option linter.unusedSimpArgs false

theorem loadF_ok {l : List UInt8} {at_ x : Int} (h : (loadF l at_ x).2 = 0) : isW x = true ∧ 0 ≤ (loadF l at_ x).1 ∧ (loadF l at_ x).1 < 256 ^ x.toNat := by
  revert h
  unfold loadF
  split
  · rename_i hx
    split
    · simp
    · intro _
      refine ⟨hx, leF_lo _, ?_⟩
      refine Int.lt_of_lt_of_le (leF_hi _) ?_
      have h1 : ((l.drop at_.toNat).take x.toNat).length ≤ x.toNat := by simp; omega
      have h2 := Nat.pow_le_pow_right (n := 256) (by decide) h1
      have : ((256 ^ ((l.drop at_.toNat).take x.toNat).length : Nat) : Int) ≤ ((256 ^ x.toNat : Nat) : Int) := Int.ofNat_le.2 h2
      simpa using this
  · simp
/-- The signed reading of a number of x bytes. -/
def sgnF (u x : Int) : Int := if u < 2 ^ (8 * x.toNat - 1) then u else u - 2 ^ (8 * x.toNat)
def loadIntF (l : List UInt8) (at_ x : Int) : Int × Int := if (loadF l at_ x).2 = 0 then (sgnF (loadF l at_ x).1 x, 0) else (0, (loadF l at_ x).2)
set_option maxRecDepth 100000 in
set_option maxHeartbeats 1000000 in
theorem loadInt_any {w : World} (sv : Value) (l : List UInt8) (hb : BytesAt w sv l) (hlen : l.length ≤ 1073741824) (at_ x : Int) (ha : -4611686018427387904 ≤ at_ ∧ at_ ≤ 4611686018427387904) (hap : ∀ ad n c, sv = .slice (some ad) n c → ad.block < w.heap.size) :
    Calls Try.prog 22 #[sv, .int .i64 at_, .int .i64 x] w fun r w' => r = .returned (.tuple #[.int .i64 (loadIntF l at_ x).1, .int .i64 (loadIntF l at_ x).2]) ∧ Grew w w' := by
  have HL : Hid (Calls Try.prog 21 #[sv, .int .i64 at_, .int .i64 x] w fun r w' => r = .returned (.tuple #[.int .u64 (loadF l at_ x).1, .int .i64 (loadF l at_ x).2]) ∧ Grew w w') := load_any sv l hb hlen at_ x ha hap
  have hok := loadF_ok (l := l) (at_ := at_) (x := x)
  unfold loadIntF
  clear hb hap
  generalize loadF l at_ x = q at *
  obtain ⟨u, e⟩ := q
  simp only at hok ⊢
  by_cases he : e = 0
  · subst he
    obtain ⟨hx, u0, u1⟩ := hok rfl
    simp only [if_true]
    rcases isW_cases hx with rfl | rfl | rfl | rfl
    all_goals
      simp at u1
      clear hx
      go_enter Try.func22, Try.ntmps22
      go_wp2_with fail
      refine HL.out.mono ?_
      rintro r w2 ⟨rfl, hg⟩
      have HG := Lib.hid hg
      clear hg
      go_wp2
      go_ret2
      refine ⟨?_, HG.out⟩
      congr 2
      simp [sgnF, IntKind.wrap, IntKind.bits, IntKind.signed]
      unfold wrap64
      split <;> omega
  · rw [if_neg he]
    go_enter Try.func22, Try.ntmps22
    go_wp2_with fail
    refine HL.out.mono ?_
    rintro r w2 ⟨rfl, hg⟩
    have HG := Lib.hid hg
    clear hg
    go_wp2
    go_ret2
    exact ⟨rfl, HG.out⟩
end Go.Proofs.Ytajpbclcfjljnaa

/-
  Vectors: the law's helpers.
-/
namespace Go.Proofs.Ytajpbclcfjljnaa
open Go Go.ChangeShapes Go.WideShapes Go.ChangeAt Go.RowKit Go.Joins
set_option linter.unusedVariables false
set_option linter.unusedSimpArgs false

theorem bringL_any (i n : Int) (w : World) (hn : 0 < n) (hn2 : n ≤ 1099511627776) : Calls Try.prog 7 #[.int .i64 i, .int .i64 n] w fun r w' => r = .returned (.int .i64 (i % n)) ∧ w' = w := by
  obtain ⟨b1, b2, b3, b4⟩ := bring_eq i n hn
  have B1 := Lib.hid b1
  have B2 := Lib.hid b2
  clear b1 b2
  go_enter Try.func7, Try.ntmps7
  go_wp2
  · go_ret
    refine ⟨ret_int ?_, rfl⟩
    exact B1.out (by assumption)
  · go_ret
    exact ⟨ret_int (B2.out (by assumption)), rfl⟩
end Go.Proofs.Ytajpbclcfjljnaa

/-
  Vectors: the law's filled buffer.
-/
namespace Go.Proofs.Ytajpbclcfjljnaa
open Go Go.ChangeShapes Go.WideShapes Go.ChangeAt Go.RowKit Go.Joins
set_option linter.unusedVariables false
set_option linter.unusedSimpArgs false

theorem bytes_zero (n : Nat) : bytesS [⟨(zeros n).toArray⟩] = zeros n := by
  simp [bytesS]
theorem size_zero (n : Nat) : sizeS [⟨(zeros n).toArray⟩] = n := by
  have h := bytesS_length [⟨(zeros n).toArray⟩]
  rw [← h, bytes_zero]
  exact length_zeros n
end Go.Proofs.Ytajpbclcfjljnaa

/-
  Package vec: shaped (typed), Put.
-/
namespace Go.Proofs.Ytajpbclcfjljnaa
open Go Go.ChangeShapes Go.WideShapes Go.ChangeAt Go.RowKit Go.Joins
open Go.Proofs.Ytajpbclcfjljnaa.Ft (V3 vV okV ValsAt inlineB legalB packF codeF typedF)
set_option linter.unusedVariables false
set_option linter.unusedSimpArgs false

/-- The form of a typed vector: the closure holds the place of elem. -/
def shapeT (elem many : Int) (n : Nat) : Value := if (typedF elem many).2 = true then .tuple #[.agg #[.int .i64 (typedF elem many).1, .bool (many == 0), fnv 59 #[.pointer (some ⟨n, 0, none⟩)], fnv 60 #[]], .int .i64 0] else .tuple #[.agg #[.int .i64 0, .bool false, .nilFunc, .nilFunc], .int .i64 20]
theorem shaped_ty (elem many : Int) (h : ¬ (elem = -1 ∧ many = 0)) (w : World) : Calls Try.prog 33 #[.int .i64 elem, .int .i64 many] w fun r w' => r = .returned (shapeT elem many w.heap.size) ∧ Grew w w' ∧ w'.cell? ⟨w.heap.size, 0, none⟩ = some (.int .i64 elem) ∧ w.heap.size < w'.heap.size := by
  unfold shapeT
  have HTY := fun w' => Ft.typed_any elem many w'
  generalize typedF elem many = tq at *
  obtain ⟨tt, tb⟩ := tq
  simp only at HTY
  have HY := Lib.hid HTY
  clear HTY
  by_cases he : elem = -1
  · have hm : ¬ many = 0 := fun x => h ⟨he, x⟩
    clear h
    subst he
    cases tb
    · go_enter Try.func33, Try.ntmps33
      go_wp2_with fail
      refine (HY.out _).mono ?_
      rintro r w1 ⟨rfl, hg⟩
      have c0 : w1.cell? ⟨w.heap.size, 0, none⟩ = some (.int .i64 (-1)) := hg.cell (by go_simp)
      have HG : Hid (Grew w w1) := (((Grew.refl w).alloc _).alloc _).trans hg
      have HSZ := hg.size
      have hb : w1.heap[w.heap.size + 1]? = some (.cells #[.int .i64 0, .bool false, .nilFunc, .nilFunc] 70) := hg.heap (by rw [show w.heap.size + 1 = (w.alloc (.cells #[.int .i64 (-1)] 3)).heap.size by simp]; exact heap_alloc_new _ _)
      have f4 := row_frozen hb 0
      have f5 := row_frozen hb 1
      have f6 := row_frozen hb 2
      have f7 := row_frozen hb 3
      clear hb
      have c4 : w1.cell? ⟨w.heap.size + 1, 0, none⟩ = some (.int .i64 0) := hg.cell (by go_simp)
      have c5 : w1.cell? ⟨w.heap.size + 1, 1, none⟩ = some (.bool false) := hg.cell (by go_simp)
      have c6 : w1.cell? ⟨w.heap.size + 1, 2, none⟩ = some .nilFunc := hg.cell (by go_simp)
      have c7 : w1.cell? ⟨w.heap.size + 1, 3, none⟩ = some .nilFunc := hg.cell (by go_simp)
      go_wp2
      refine bodyPost_ret (v := .tuple #[.agg #[.int .i64 0, .bool false, .nilFunc, .nilFunc], .int .i64 20]) ?_ rfl ⟨by simp, ?_, ?_, ?_⟩
      · simp [results, Try.results33, go_sem, fnv, c4, c5, c6, c7, hm]
      · exact (((HG.out.setCell (by simp) _).setCell (by simp) _).setCell (by simp) _).setCell (by simp) _
      · go_simp
      · simp at HSZ ⊢; omega
    · go_enter Try.func33, Try.ntmps33
      go_wp2_with fail
      refine (HY.out _).mono ?_
      rintro r w1 ⟨rfl, hg⟩
      have c0 : w1.cell? ⟨w.heap.size, 0, none⟩ = some (.int .i64 (-1)) := hg.cell (by go_simp)
      have HG : Hid (Grew w w1) := (((Grew.refl w).alloc _).alloc _).trans hg
      have HSZ := hg.size
      have hb : w1.heap[w.heap.size + 1]? = some (.cells #[.int .i64 0, .bool false, .nilFunc, .nilFunc] 70) := hg.heap (by rw [show w.heap.size + 1 = (w.alloc (.cells #[.int .i64 (-1)] 3)).heap.size by simp]; exact heap_alloc_new _ _)
      have f4 := row_frozen hb 0
      have f5 := row_frozen hb 1
      have f6 := row_frozen hb 2
      have f7 := row_frozen hb 3
      clear hb
      have c4 : w1.cell? ⟨w.heap.size + 1, 0, none⟩ = some (.int .i64 0) := hg.cell (by go_simp)
      have c5 : w1.cell? ⟨w.heap.size + 1, 1, none⟩ = some (.bool false) := hg.cell (by go_simp)
      have c6 : w1.cell? ⟨w.heap.size + 1, 2, none⟩ = some .nilFunc := hg.cell (by go_simp)
      have c7 : w1.cell? ⟨w.heap.size + 1, 3, none⟩ = some .nilFunc := hg.cell (by go_simp)
      go_wp2
      refine bodyPost_ret (v := .tuple #[.agg #[.int .i64 tt, .bool (many == 0), fnv 59 #[.pointer (some ⟨w.heap.size, 0, none⟩)], fnv 60 #[]], .int .i64 0]) ?_ rfl ⟨by simp [fnv, hm], ?_, ?_, ?_⟩
      · simp [results, Try.results33, go_sem, fnv, c4, c5, c6, c7, hm]
      · exact (((HG.out.setCell (by simp) _).setCell (by simp) _).setCell (by simp) _).setCell (by simp) _
      · go_simp
      · simp at HSZ ⊢; omega
  · clear h
    cases tb
    · go_enter Try.func33, Try.ntmps33
      go_wp2_with fail
      refine (HY.out _).mono ?_
      rintro r w1 ⟨rfl, hg⟩
      have c0 : w1.cell? ⟨w.heap.size, 0, none⟩ = some (.int .i64 elem) := hg.cell (by go_simp)
      have HG : Hid (Grew w w1) := (((Grew.refl w).alloc _).alloc _).trans hg
      have HSZ := hg.size
      have hb : w1.heap[w.heap.size + 1]? = some (.cells #[.int .i64 0, .bool false, .nilFunc, .nilFunc] 70) := hg.heap (by rw [show w.heap.size + 1 = (w.alloc (.cells #[.int .i64 elem] 3)).heap.size by simp]; exact heap_alloc_new _ _)
      have f4 := row_frozen hb 0
      have f5 := row_frozen hb 1
      have f6 := row_frozen hb 2
      have f7 := row_frozen hb 3
      clear hb
      have c4 : w1.cell? ⟨w.heap.size + 1, 0, none⟩ = some (.int .i64 0) := hg.cell (by go_simp)
      have c5 : w1.cell? ⟨w.heap.size + 1, 1, none⟩ = some (.bool false) := hg.cell (by go_simp)
      have c6 : w1.cell? ⟨w.heap.size + 1, 2, none⟩ = some .nilFunc := hg.cell (by go_simp)
      have c7 : w1.cell? ⟨w.heap.size + 1, 3, none⟩ = some .nilFunc := hg.cell (by go_simp)
      go_wp2
      refine bodyPost_ret (v := .tuple #[.agg #[.int .i64 0, .bool false, .nilFunc, .nilFunc], .int .i64 20]) ?_ rfl ⟨by simp, ?_, ?_, ?_⟩
      · simp [results, Try.results33, go_sem, fnv, c4, c5, c6, c7]
      · exact (((HG.out.setCell (by simp) _).setCell (by simp) _).setCell (by simp) _).setCell (by simp) _
      · go_simp
      · simp at HSZ ⊢; omega
    · go_enter Try.func33, Try.ntmps33
      go_wp2_with fail
      refine (HY.out _).mono ?_
      rintro r w1 ⟨rfl, hg⟩
      have c0 : w1.cell? ⟨w.heap.size, 0, none⟩ = some (.int .i64 elem) := hg.cell (by go_simp)
      have HG : Hid (Grew w w1) := (((Grew.refl w).alloc _).alloc _).trans hg
      have HSZ := hg.size
      have hb : w1.heap[w.heap.size + 1]? = some (.cells #[.int .i64 0, .bool false, .nilFunc, .nilFunc] 70) := hg.heap (by rw [show w.heap.size + 1 = (w.alloc (.cells #[.int .i64 elem] 3)).heap.size by simp]; exact heap_alloc_new _ _)
      have f4 := row_frozen hb 0
      have f5 := row_frozen hb 1
      have f6 := row_frozen hb 2
      have f7 := row_frozen hb 3
      clear hb
      have c4 : w1.cell? ⟨w.heap.size + 1, 0, none⟩ = some (.int .i64 0) := hg.cell (by go_simp)
      have c5 : w1.cell? ⟨w.heap.size + 1, 1, none⟩ = some (.bool false) := hg.cell (by go_simp)
      have c6 : w1.cell? ⟨w.heap.size + 1, 2, none⟩ = some .nilFunc := hg.cell (by go_simp)
      have c7 : w1.cell? ⟨w.heap.size + 1, 3, none⟩ = some .nilFunc := hg.cell (by go_simp)
      go_wp2
      refine bodyPost_ret (v := .tuple #[.agg #[.int .i64 tt, .bool (many == 0), fnv 59 #[.pointer (some ⟨w.heap.size, 0, none⟩)], fnv 60 #[]], .int .i64 0]) ?_ rfl ⟨by simp [fnv], ?_, ?_, ?_⟩
      · simp [results, Try.results33, go_sem, fnv, c4, c5, c6, c7]
      · exact (((HG.out.setCell (by simp) _).setCell (by simp) _).setCell (by simp) _).setCell (by simp) _
      · go_simp
      · simp at HSZ ⊢; omega
theorem noTags_any (a b c : Value) (w : World) : Calls Try.prog 60 #[a, b, c] w fun r w' => r = .returned (.tuple #[]) ∧ Grew w w' := by
  go_enter Try.func60, Try.ntmps60
  go_wp2
  first | go_end0 | refine bodyPost_ret (results_none rfl _ _ _) rfl ?_
  exact ⟨rfl, Grew.refl _⟩
end Go.Proofs.Ytajpbclcfjljnaa
