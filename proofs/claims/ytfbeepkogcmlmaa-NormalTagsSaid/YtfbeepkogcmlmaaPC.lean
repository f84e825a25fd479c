/-
  Texts of the proof, part 3 of 8.
-/
import Derived.Shelf.Small.Bits
import Derived.Shelf.Small.Strs
import Derived.Shelf.Strconv.Itoa0
import Derived.Shelf.Strings.Search1
import Derived.Ground.SlsfProg
import Derived.Shelf.SlSortCmp.Insertion
import Derived.Shelf.SlSortCmp.SiftDown1
import Derived.Shelf.SlSortCmp.HeapSort1
import Derived.Shelf.SlSortCmp.Insertion1
import Derived.Shelf.SlSortCmp.Median1
import Derived.Shelf.SlSortCmp.Pivot1
import Derived.Shelf.SlSortCmp.ReverseRange1
import Derived.Shelf.SlSortCmp.PartialInsertion1
import Derived.Shelf.SlSortCmp.PartitionEqual1
import Derived.Shelf.SlSortCmp.Partition1
import Derived.Shelf.SlSortCmp.Pdq1
import Derived.Shelf.SlSortCmp.Whole1
import Derived.Shelf.SlSortCmp.NoneTotal
import Derived.Test.YtfbeepkogcmlmaaProg
import Derived.Test.YtfbeepkogcmlmaaPB
import Derived.Maps.OwnOps
import Derived.Maps.Views
import Derived.Lib.IndexAny
import Derived.Deep.OwnRows

/-
  DERIVED: THE SHELF's CONTRACTS AT THIS DUMP, IN PLAIN WORDS (tools/lay-plain.mjs out of 'TryShelf.lean', which tools/lay-shelf.mjs wrote): THE SAME DECLARATIONS UNDER THE SAME NAMES: 'import', 'namespace', 'open', 'def', 'theorem' AND NOTHING ELSE: no command of the shelf's: FOR A HAND-IN. Each laying: the table of numbers ('.._ren') and one theorem, a field a fact of the dump's own or the kernel's comparison; each contract: ONE APPLICATION.
-/
namespace Go.Proofs
open Go.Shelf
def Try.lays128_ren : Go.Shelf.Ren := ⟨fun | 128 => 88 | n => n, fun | 51 => 95 | 3 => 3 | 4 => 4 | 46 => 85 | 5 => 5 | 9 => 9 | n => n, fun | n => n⟩
theorem Try.lays128 : Go.Proofs.Lays.n128 Try.prog Try.lays128_ren := {
  mixed := by kernel_rfl
  f128 := Try.func88.trans (congrArg some (by kernel_rfl))
  t3 := Try.underlying3
  a3 := Try.isAgg3
  z3 := Try.sizeOf3
  v3 := Try.zeroValue3
  t4 := Try.underlying4
  a4 := Try.isAgg4
  z4 := Try.sizeOf4
  v4 := Try.zeroValue4
  t5 := Try.underlying5
  a5 := Try.isAgg5
  z5 := Try.sizeOf5
  v5 := Try.zeroValue5
  t9 := Try.underlying9
  a9 := Try.isAgg9
  z9 := Try.sizeOf9
  v9 := Try.zeroValue9
  t46 := Try.underlying85
  a46 := Try.isAgg85
  z46 := Try.sizeOf85
  v46 := Try.zeroValue85
  t51 := Try.underlying95
  a51 := Try.isAgg95
  z51 := Try.sizeOf95
  v51 := Try.zeroValue95 }
/-- bits.Len32: "Len32 returns the minimum number of bits required to represent x; the result is 0 for x == 0.": IT RETURNS 'Lib.bitLen x'; the world is as it was. ('h0', 'h1': x is a uint32.) (LAID: no walk: one application.) -/
theorem Try.bits_Len32 (x : Int) (w : World) (h0 : 0 ≤ x) (h1 : x ≤ 4294967295) :
    Calls Try.prog 88 #[.int .u32 x] w fun e w' => e = .returned (.int .i64 (Lib.bitLen x.toNat)) ∧ w' = w := Any.bits_Len32 Try.lays128 x w h0 h1
def Try.lays125_ren : Go.Shelf.Ren := ⟨fun | 125 => 77 | 128 => 88 | 129 => 89 | n => n, fun | 46 => 85 | 3 => 3 | 51 => 95 | 53 => 22 | 4 => 4 | 5 => 5 | 9 => 9 | n => n, fun | n => n⟩
theorem Try.lays125 : Go.Proofs.Lays.n125 Try.prog Try.lays125_ren := {
  mixed := by kernel_rfl
  f125 := Try.func77.trans (congrArg some (by kernel_rfl))
  f128 := Try.func88.trans (congrArg some (by kernel_rfl))
  f129 := Try.func89.trans (congrArg some (by kernel_rfl))
  t3 := Try.underlying3
  a3 := Try.isAgg3
  z3 := Try.sizeOf3
  v3 := Try.zeroValue3
  t4 := Try.underlying4
  a4 := Try.isAgg4
  z4 := Try.sizeOf4
  v4 := Try.zeroValue4
  t5 := Try.underlying5
  a5 := Try.isAgg5
  z5 := Try.sizeOf5
  v5 := Try.zeroValue5
  t9 := Try.underlying9
  a9 := Try.isAgg9
  z9 := Try.sizeOf9
  v9 := Try.zeroValue9
  t46 := Try.underlying85
  a46 := Try.isAgg85
  z46 := Try.sizeOf85
  v46 := Try.zeroValue85
  t51 := Try.underlying95
  a51 := Try.isAgg95
  z51 := Try.sizeOf95
  v51 := Try.zeroValue95
  t53 := Try.underlying22
  a53 := Try.isAgg22
  z53 := Try.sizeOf22
  v53 := Try.zeroValue22 }
/-- bits.Len: "Len returns the minimum number of bits required to represent x; the result is 0 for x == 0.": IT RETURNS 'Lib.bitLen x'; the world is as it was. (A uint has 64 bits in the model.) ITS CALLEE bits.Len64 IS MET BY ITS OWN CONTRACT OFF THE SHELF (lay that first). (LAID: no walk: one application.) -/
theorem Try.bits_Len (x : Int) (w : World) (h0 : 0 ≤ x) (h1 : x ≤ 18446744073709551615) :
    Calls Try.prog 77 #[.int .u64 x] w fun e w' => e = .returned (.int .i64 (Lib.bitLen x.toNat)) ∧ w' = w := Any.bits_Len Try.lays125 x w h0 h1
def Try.lays213_ren : Go.Shelf.Ren := ⟨fun | 213 => 78 | 265 => 90 | n => n, fun | 9 => 9 | 3 => 3 | n => n, fun | n => n⟩
theorem Try.lays213 : Go.Proofs.Lays.n213 Try.prog Try.lays213_ren := {
  mixed := by kernel_rfl
  f213 := Try.func78.trans (congrArg some (by kernel_rfl))
  f265 := Try.func90.trans (congrArg some (by kernel_rfl))
  t3 := Try.underlying3
  a3 := Try.isAgg3
  z3 := Try.sizeOf3
  v3 := Try.zeroValue3
  t9 := Try.underlying9
  a9 := Try.isAgg9
  z9 := Try.sizeOf9
  v9 := Try.zeroValue9 }
open Go.RowKit in
/-- internal/bytealg.CompareString (what strings.Compare calls): IT RETURNS 'Lib.compareBytes a b'; the world is as it was. (LAID: no walk: one application.) -/
theorem Try.bytealg_CompareString (a b : ByteArray) (w : World) :
    Calls Try.prog 78 #[.string a, .string b] w fun e w' => e = .returned (.int .i64 (Lib.compareBytes a.data.toList b.data.toList)) ∧ w' = w := Any.bytealg_CompareString Try.lays213 a b w
def Try.lays106_ren : Go.Shelf.Ren := ⟨fun | 106 => 71 | 213 => 78 | 265 => 90 | n => n, fun | 9 => 9 | 3 => 3 | n => n, fun | n => n⟩
theorem Try.lays106 : Go.Proofs.Lays.n106 Try.prog Try.lays106_ren := {
  mixed := by kernel_rfl
  f106 := Try.func71.trans (congrArg some (by kernel_rfl))
  f213 := Try.func78.trans (congrArg some (by kernel_rfl))
  f265 := Try.func90.trans (congrArg some (by kernel_rfl))
  t3 := Try.underlying3
  a3 := Try.isAgg3
  z3 := Try.sizeOf3
  v3 := Try.zeroValue3
  t9 := Try.underlying9
  a9 := Try.isAgg9
  z9 := Try.sizeOf9
  v9 := Try.zeroValue9 }
open Go.RowKit in
/-- strings.Compare: "Compare returns an integer comparing two strings lexicographically. The result will be 0 if a == b, -1 if a < b, and +1 if a > b.": IT RETURNS 'Lib.compareBytes a b'; the world is as it was. (LAID: no walk: one application.) -/
theorem Try.strings_Compare (a b : ByteArray) (w : World) :
    Calls Try.prog 71 #[.string a, .string b] w fun e w' => e = .returned (.int .i64 (Lib.compareBytes a.data.toList b.data.toList)) ∧ w' = w := Any.strings_Compare Try.lays106 a b w
def Try.lays137_ren : Go.Shelf.Ren := ⟨fun | 137 => 60 | 217 => 68 | 266 => 75 | n => n, fun | 9 => 9 | 5 => 5 | 3 => 3 | n => n, fun | n => n⟩
theorem Try.lays137 : Go.Proofs.Lays.n137 Try.prog Try.lays137_ren := {
  mixed := by kernel_rfl
  f137 := Try.func60.trans (congrArg some (by kernel_rfl))
  f217 := Try.func68.trans (congrArg some (by kernel_rfl))
  f266 := Try.func75.trans (congrArg some (by kernel_rfl))
  t3 := Try.underlying3
  a3 := Try.isAgg3
  z3 := Try.sizeOf3
  v3 := Try.zeroValue3
  t5 := Try.underlying5
  a5 := Try.isAgg5
  z5 := Try.sizeOf5
  v5 := Try.zeroValue5
  t9 := Try.underlying9
  a9 := Try.isAgg9
  z9 := Try.sizeOf9
  v9 := Try.zeroValue9 }
open Go.RowKit in
/-- strings.IndexByte: "IndexByte returns the index of the first instance of c in s, or -1 if c is not present in s.": IT RETURNS 'Lib.indexByte s c'; the world is as it was. (LAID: no walk: one application.) -/
theorem Try.strings_IndexByte (s : ByteArray) (c : Int) (w : World) :
    Calls Try.prog 60 #[.string s, .int .u8 c] w fun e w' => e = .returned (.int .i64 (Lib.indexByte s.data.toList c.toNat.toUInt8)) ∧ w' = w := Any.strings_IndexByte Try.lays137 s c w
def Try.lays129_ren : Go.Shelf.Ren := ⟨fun | 129 => 89 | n => n, fun | 53 => 22 | 3 => 3 | 4 => 4 | 46 => 85 | 5 => 5 | 9 => 9 | n => n, fun | n => n⟩
theorem Try.lays129 : Go.Proofs.Lays.n129 Try.prog Try.lays129_ren := {
  mixed := by kernel_rfl
  f129 := Try.func89.trans (congrArg some (by kernel_rfl))
  t3 := Try.underlying3
  a3 := Try.isAgg3
  z3 := Try.sizeOf3
  v3 := Try.zeroValue3
  t4 := Try.underlying4
  a4 := Try.isAgg4
  z4 := Try.sizeOf4
  v4 := Try.zeroValue4
  t5 := Try.underlying5
  a5 := Try.isAgg5
  z5 := Try.sizeOf5
  v5 := Try.zeroValue5
  t9 := Try.underlying9
  a9 := Try.isAgg9
  z9 := Try.sizeOf9
  v9 := Try.zeroValue9
  t46 := Try.underlying85
  a46 := Try.isAgg85
  z46 := Try.sizeOf85
  v46 := Try.zeroValue85
  t53 := Try.underlying22
  a53 := Try.isAgg22
  z53 := Try.sizeOf22
  v53 := Try.zeroValue22 }
/-- bits.Len64: "Len64 returns the minimum number of bits required to represent x; the result is 0 for x == 0.": IT RETURNS 'Lib.bitLen x'; the world is as it was. ('h0', 'h1': x is a uint64.) (LAID: no walk: one application.) -/
theorem Try.bits_Len64 (x : Int) (w : World) (h0 : 0 ≤ x) (h1 : x ≤ 18446744073709551615) :
    Calls Try.prog 89 #[.int .u64 x] w fun e w' => e = .returned (.int .i64 (Lib.bitLen x.toNat)) ∧ w' = w := Any.bits_Len64 Try.lays129 x w h0 h1
def Try.lays217_ren : Go.Shelf.Ren := ⟨fun | 217 => 68 | 266 => 75 | n => n, fun | 9 => 9 | 5 => 5 | 3 => 3 | n => n, fun | n => n⟩
theorem Try.lays217 : Go.Proofs.Lays.n217 Try.prog Try.lays217_ren := {
  mixed := by kernel_rfl
  f217 := Try.func68.trans (congrArg some (by kernel_rfl))
  f266 := Try.func75.trans (congrArg some (by kernel_rfl))
  t3 := Try.underlying3
  a3 := Try.isAgg3
  z3 := Try.sizeOf3
  v3 := Try.zeroValue3
  t5 := Try.underlying5
  a5 := Try.isAgg5
  z5 := Try.sizeOf5
  v5 := Try.zeroValue5
  t9 := Try.underlying9
  a9 := Try.isAgg9
  z9 := Try.sizeOf9
  v9 := Try.zeroValue9 }
open Go.RowKit Go.Lib in
/-- internal/stringslite.IndexByte (what strings.IndexByte calls): IT RETURNS 'Lib.indexByte s c'; the world is as it was. (LAID: no walk: one application.) -/
theorem Try.stringslite_IndexByte (s : ByteArray) (c : Int) (w : World) :
    Calls Try.prog 68 #[.string s, .int .u8 c] w fun e w' => e = .returned (.int .i64 (Lib.indexByte s.data.toList c.toNat.toUInt8)) ∧ w' = w := Any.stringslite_IndexByte Try.lays217 s c w
def Try.laysSlF20_f80_ren : Go.Shelf.Ren := ⟨fun | 20 => 80 | n => n, fun | 24 => 3 | 22 => 69 | 3 => 3 | 25 => 37 | 4 => 4 | 0 => 0 | n => n, fun | n => n⟩
theorem Try.laysSlF20_f80 : Go.Proofs.SlLaysF.n20 Try.prog Try.laysSlF20_f80_ren := {
  mixed := by kernel_rfl
  f20 := ⟨Try.f80.name, by decide, Try.func80.trans (congrArg some (by kernel_rfl))⟩
  t0 := Try.underlying0
  a0 := Try.isAgg0
  z0 := Try.sizeOf0
  v0 := Try.zeroValue0
  t3 := Try.underlying3
  a3 := Try.isAgg3
  z3 := Try.sizeOf3
  v3 := Try.zeroValue3
  t4 := Try.underlying4
  a4 := Try.isAgg4
  z4 := Try.sizeOf4
  v4 := Try.zeroValue4
  t22 := Try.underlying69
  a22 := Try.isAgg69
  z22 := Try.sizeOf69
  v22 := Try.zeroValue69
  a24 := Try.isAgg3
  z24 := Try.sizeOf3
  t25 := Try.underlying37
  a25 := Try.isAgg37
  z25 := Try.sizeOf37
  v25 := Try.zeroValue37 }
open Go.RowKit Go.Lib Go.Sort in
theorem Try.insertionSortCmpFunc_one {α : Type} [Inhabited α] (enc : α → Value) (hO : OneCell enc) (cf : α → α → Int) (g : Nat) (cb : Array Value) (blk off cap a b : Nat) (d : Array α) (w : World) (eg : ∀ args w, (callFunc g args).run Try.prog w = .ok (.enter g args) w) (hcmp : CmpReads Try.prog g cb enc cf blk off d.size w) (hH : Holds enc w blk off d) (hab : a ≤ b) (hb : b ≤ d.size) (hsz : d.size < 4611686018427387904) :
    Calls Try.prog 80 #[.slice (some ⟨blk, off, none⟩) d.size cap, .int .i64 a, .int .i64 b, .func (.func g) #[] cb] w fun e w' =>
      e = .returned (.tuple #[]) ∧ ∃ n, w' = (putRow enc w blk off (Sort.insertionSort (ltOf cf) d a b)).drewN n := Any.insertionSortCmpFunc_one Try.laysSlF20_f80 enc hO cf g cb blk off cap a b d w eg hcmp hH hab hb hsz
def Try.laysSlF46_f91_ren : Go.Shelf.Ren := ⟨fun | 46 => 91 | n => n, fun | 24 => 3 | 22 => 69 | 3 => 3 | 25 => 37 | 4 => 4 | 0 => 0 | n => n, fun | n => n⟩
theorem Try.laysSlF46_f91 : Go.Proofs.SlLaysF.n46 Try.prog Try.laysSlF46_f91_ren := {
  mixed := by kernel_rfl
  f46 := ⟨Try.f91.name, by decide, Try.func91.trans (congrArg some (by kernel_rfl))⟩
  t0 := Try.underlying0
  a0 := Try.isAgg0
  z0 := Try.sizeOf0
  v0 := Try.zeroValue0
  t3 := Try.underlying3
  a3 := Try.isAgg3
  z3 := Try.sizeOf3
  v3 := Try.zeroValue3
  t4 := Try.underlying4
  a4 := Try.isAgg4
  z4 := Try.sizeOf4
  v4 := Try.zeroValue4
  t22 := Try.underlying69
  a22 := Try.isAgg69
  z22 := Try.sizeOf69
  v22 := Try.zeroValue69
  a24 := Try.isAgg3
  z24 := Try.sizeOf3
  t25 := Try.underlying37
  a25 := Try.isAgg37
  z25 := Try.sizeOf37
  v25 := Try.zeroValue37 }
open Go.RowKit Go.Lib Go.Sort in
/-- slices.siftDownCmpFunc at elements of one cell: from a world of the sort's to a world of the sort's. (LAID AT THE INSTANCE 'slices.siftDownCmpFunc[int]': no walk: one application.) -/
theorem Try.siftDownCmpFunc {α : Type} [Inhabited α] (enc : α → Value) (cf : α → α → Int) (g : Nat) (cb : Array Value) (blk off cap lo hi first : Nat) (d0 d : Array α) (w0 w : World) (eg : ∀ args w, (callFunc g args).run Try.prog w = .ok (.enter g args) w) (hcmp : CmpLays1 Try.prog g cb enc cf blk off d0.size w0) (R : Row1 enc w0 blk off d0) (hs : d0.size = d.size) (S : SW enc w0 blk off d w) (hlo : lo ≤ hi) (hb : first + hi ≤ d.size) (hsz : d.size < 4611686018427387904) :
    Calls Try.prog 91 #[.slice (some ⟨blk, off, none⟩) d.size cap, .int .i64 lo, .int .i64 hi, .int .i64 first, .func (.func g) #[] cb] w fun e w' =>
      e = .returned (.tuple #[]) ∧ SW enc w0 blk off (siftDown (ltOf cf) hi first lo d) w' := Any.siftDownCmpFunc Try.laysSlF46_f91 enc cf g cb blk off cap lo hi first d0 d w0 w eg hcmp R hs S hlo hb hsz
def Try.laysSlF21_f81_ren : Go.Shelf.Ren := ⟨fun | 21 => 81 | 46 => 91 | n => n, fun | 24 => 3 | 22 => 69 | 3 => 3 | 25 => 37 | 4 => 4 | 0 => 0 | n => n, fun | n => n⟩
theorem Try.laysSlF21_f81 : Go.Proofs.SlLaysF.n21 Try.prog Try.laysSlF21_f81_ren := {
  mixed := by kernel_rfl
  f21 := ⟨Try.f81.name, by decide, Try.func81.trans (congrArg some (by kernel_rfl))⟩
  f46 := ⟨Try.f91.name, by decide, Try.func91.trans (congrArg some (by kernel_rfl))⟩
  t0 := Try.underlying0
  a0 := Try.isAgg0
  z0 := Try.sizeOf0
  v0 := Try.zeroValue0
  t3 := Try.underlying3
  a3 := Try.isAgg3
  z3 := Try.sizeOf3
  v3 := Try.zeroValue3
  t4 := Try.underlying4
  a4 := Try.isAgg4
  z4 := Try.sizeOf4
  v4 := Try.zeroValue4
  t22 := Try.underlying69
  a22 := Try.isAgg69
  z22 := Try.sizeOf69
  v22 := Try.zeroValue69
  a24 := Try.isAgg3
  z24 := Try.sizeOf3
  t25 := Try.underlying37
  a25 := Try.isAgg37
  z25 := Try.sizeOf37
  v25 := Try.zeroValue37 }
open Go.RowKit Go.Lib Go.Sort in
/-- slices.heapSortCmpFunc at elements of one cell. (LAID AT THE INSTANCE 'slices.heapSortCmpFunc[int]': no walk: one application.) -/
theorem Try.heapSortCmpFunc {α : Type} [Inhabited α] (enc : α → Value) (cf : α → α → Int) (g : Nat) (cb : Array Value) (blk off cap a b : Nat) (d0 d : Array α) (w0 w : World) (eg : ∀ args w, (callFunc g args).run Try.prog w = .ok (.enter g args) w) (hcmp : CmpLays1 Try.prog g cb enc cf blk off d0.size w0) (R : Row1 enc w0 blk off d0) (hs : d0.size = d.size) (S : SW enc w0 blk off d w) (hab : a ≤ b) (hb : b ≤ d.size) (hsz : d.size < 4611686018427387904) :
    Calls Try.prog 81 #[.slice (some ⟨blk, off, none⟩) d.size cap, .int .i64 a, .int .i64 b, .func (.func g) #[] cb] w fun e w' =>
      e = .returned (.tuple #[]) ∧ SW enc w0 blk off (heapSort (ltOf cf) d a b) w' := Any.heapSortCmpFunc Try.laysSlF21_f81 enc cf g cb blk off cap a b d0 d w0 w eg hcmp R hs S hab hb hsz
open Go.RowKit Go.Lib Go.Sort in
/-- slices.insertionSortCmpFunc at elements of one cell: from a world of the sort's to a world of the sort's. (LAID AT THE INSTANCE 'slices.insertionSortCmpFunc[int]': no walk: one application.) -/
theorem Try.insertionSortCmpFunc_s {α : Type} [Inhabited α] (enc : α → Value) (cf : α → α → Int) (g : Nat) (cb : Array Value) (blk off cap a b : Nat) (d0 d : Array α) (w0 w : World) (eg : ∀ args w, (callFunc g args).run Try.prog w = .ok (.enter g args) w) (hcmp : CmpLays1 Try.prog g cb enc cf blk off d0.size w0) (R : Row1 enc w0 blk off d0) (hs : d0.size = d.size) (S : SW enc w0 blk off d w) (hab : a ≤ b) (hb : b ≤ d.size) (hsz : d.size < 4611686018427387904) :
    Calls Try.prog 80 #[.slice (some ⟨blk, off, none⟩) d.size cap, .int .i64 a, .int .i64 b, .func (.func g) #[] cb] w fun e w' => e = .returned (.tuple #[]) ∧ SW enc w0 blk off (Sort.insertionSort (ltOf cf) d a b) w' := Any.insertionSortCmpFunc_s Try.laysSlF20_f80 enc cf g cb blk off cap a b d0 d w0 w eg hcmp R hs S hab hb hsz
def Try.laysSlF57_f96_ren : Go.Shelf.Ren := ⟨fun | 57 => 96 | n => n, fun | 24 => 3 | 22 => 69 | 3 => 3 | 70 => 101 | 25 => 37 | 0 => 0 | 4 => 4 | n => n, fun | n => n⟩
theorem Try.laysSlF57_f96 : Go.Proofs.SlLaysF.n57 Try.prog Try.laysSlF57_f96_ren := {
  mixed := by kernel_rfl
  f57 := ⟨Try.f96.name, by decide, Try.func96.trans (congrArg some (by kernel_rfl))⟩
  t0 := Try.underlying0
  a0 := Try.isAgg0
  z0 := Try.sizeOf0
  v0 := Try.zeroValue0
  t3 := Try.underlying3
  a3 := Try.isAgg3
  z3 := Try.sizeOf3
  v3 := Try.zeroValue3
  t4 := Try.underlying4
  a4 := Try.isAgg4
  z4 := Try.sizeOf4
  v4 := Try.zeroValue4
  t22 := Try.underlying69
  a22 := Try.isAgg69
  z22 := Try.sizeOf69
  v22 := Try.zeroValue69
  a24 := Try.isAgg3
  z24 := Try.sizeOf3
  t25 := Try.underlying37
  a25 := Try.isAgg37
  z25 := Try.sizeOf37
  v25 := Try.zeroValue37
  t70 := Try.underlying101
  a70 := Try.isAgg101
  z70 := Try.sizeOf101
  v70 := Try.zeroValue101 }
open Go.RowKit Go.Lib Go.Sort in
/-- slices.order2CmpFunc at elements of one cell. (LAID AT THE INSTANCE 'slices.order2CmpFunc[int]': no walk: one application.) -/
theorem Try.order2CmpFunc {α : Type} [Inhabited α] (enc : α → Value) (cf : α → α → Int) (g : Nat) (cb : Array Value) (blk off cap a b c s : Nat) (d0 d : Array α) (w0 W : World) (eg : ∀ args w, (callFunc g args).run Try.prog w = .ok (.enter g args) w) (hcmp : CmpLays1 Try.prog g cb enc cf blk off d0.size w0) (R : Row1 enc w0 blk off d0) (hs : d0.size = d.size) (C : Cnt1 enc w0 blk off d c s W) (ha : a < d.size) (hb : b < d.size) (hsz : d.size < 4611686018427387904) (hss : s < 4611686018427387904) :
    Calls Try.prog 96 #[.slice (some ⟨blk, off, none⟩) d.size cap, .int .i64 a, .int .i64 b, .pointer (some ⟨c, 0, none⟩), .func (.func g) #[] cb] W fun e w' =>
      e = .returned (.tuple #[.int .i64 (order2 (ltOf cf) d a b s).1, .int .i64 (order2 (ltOf cf) d a b s).2.1]) ∧ Cnt1 enc w0 blk off d c (order2 (ltOf cf) d a b s).2.2 w' := Any.order2CmpFunc Try.laysSlF57_f96 enc cf g cb blk off cap a b c s d0 d w0 W eg hcmp R hs C ha hb hsz hss
def Try.laysSlF50_f95_ren : Go.Shelf.Ren := ⟨fun | 50 => 95 | 57 => 96 | n => n, fun | 24 => 3 | 22 => 69 | 3 => 3 | 70 => 101 | 25 => 37 | 77 => 104 | 0 => 0 | 4 => 4 | n => n, fun | n => n⟩
theorem Try.laysSlF50_f95 : Go.Proofs.SlLaysF.n50 Try.prog Try.laysSlF50_f95_ren := {
  mixed := by kernel_rfl
  f50 := ⟨Try.f95.name, by decide, Try.func95.trans (congrArg some (by kernel_rfl))⟩
  f57 := ⟨Try.f96.name, by decide, Try.func96.trans (congrArg some (by kernel_rfl))⟩
  t0 := Try.underlying0
  a0 := Try.isAgg0
  z0 := Try.sizeOf0
  v0 := Try.zeroValue0
  t3 := Try.underlying3
  a3 := Try.isAgg3
  z3 := Try.sizeOf3
  v3 := Try.zeroValue3
  t4 := Try.underlying4
  a4 := Try.isAgg4
  z4 := Try.sizeOf4
  v4 := Try.zeroValue4
  t22 := Try.underlying69
  a22 := Try.isAgg69
  z22 := Try.sizeOf69
  v22 := Try.zeroValue69
  a24 := Try.isAgg3
  z24 := Try.sizeOf3
  t25 := Try.underlying37
  a25 := Try.isAgg37
  z25 := Try.sizeOf37
  v25 := Try.zeroValue37
  t70 := Try.underlying101
  a70 := Try.isAgg101
  z70 := Try.sizeOf101
  v70 := Try.zeroValue101
  t77 := Try.underlying104
  a77 := Try.isAgg104
  z77 := Try.sizeOf104
  v77 := Try.zeroValue104 }
open Go.RowKit Go.Lib Go.Sort in
/-- slices.medianCmpFunc at elements of one cell. (LAID AT THE INSTANCE 'slices.medianCmpFunc[int]': no walk: one application.) -/
theorem Try.medianCmpFunc {α : Type} [Inhabited α] (enc : α → Value) (cf : α → α → Int) (g : Nat) (cb : Array Value) (blk off cap a b c' c s : Nat) (d0 d : Array α) (w0 W : World) (eg : ∀ args w, (callFunc g args).run Try.prog w = .ok (.enter g args) w) (hcmp : CmpLays1 Try.prog g cb enc cf blk off d0.size w0) (R : Row1 enc w0 blk off d0) (hs : d0.size = d.size) (C : Cnt1 enc w0 blk off d c s W) (ha : a < d.size) (hb : b < d.size) (hc : c' < d.size) (hsz : d.size < 4611686018427387904) (hss : s + 3 < 4611686018427387904) :
    Calls Try.prog 95 #[.slice (some ⟨blk, off, none⟩) d.size cap, .int .i64 a, .int .i64 b, .int .i64 c', .pointer (some ⟨c, 0, none⟩), .func (.func g) #[] cb] W fun e w' =>
      e = .returned (.int .i64 (median (ltOf cf) d a b c' s).1) ∧ Cnt1 enc w0 blk off d c (median (ltOf cf) d a b c' s).2 w' := Any.medianCmpFunc Try.laysSlF50_f95 enc cf g cb blk off cap a b c' c s d0 d w0 W eg hcmp R hs C ha hb hc hsz hss
def Try.laysSlF49_f94_ren : Go.Shelf.Ren := ⟨fun | 49 => 94 | 50 => 95 | 57 => 96 | n => n, fun | 24 => 3 | 22 => 69 | 3 => 3 | 70 => 101 | 25 => 37 | 77 => 104 | 0 => 0 | 4 => 4 | n => n, fun | n => n⟩
theorem Try.laysSlF49_f94 : Go.Proofs.SlLaysF.n49 Try.prog Try.laysSlF49_f94_ren := {
  mixed := by kernel_rfl
  f49 := ⟨Try.f94.name, by decide, Try.func94.trans (congrArg some (by kernel_rfl))⟩
  f50 := ⟨Try.f95.name, by decide, Try.func95.trans (congrArg some (by kernel_rfl))⟩
  f57 := ⟨Try.f96.name, by decide, Try.func96.trans (congrArg some (by kernel_rfl))⟩
  t0 := Try.underlying0
  a0 := Try.isAgg0
  z0 := Try.sizeOf0
  v0 := Try.zeroValue0
  t3 := Try.underlying3
  a3 := Try.isAgg3
  z3 := Try.sizeOf3
  v3 := Try.zeroValue3
  t4 := Try.underlying4
  a4 := Try.isAgg4
  z4 := Try.sizeOf4
  v4 := Try.zeroValue4
  t22 := Try.underlying69
  a22 := Try.isAgg69
  z22 := Try.sizeOf69
  v22 := Try.zeroValue69
  a24 := Try.isAgg3
  z24 := Try.sizeOf3
  t25 := Try.underlying37
  a25 := Try.isAgg37
  z25 := Try.sizeOf37
  v25 := Try.zeroValue37
  t70 := Try.underlying101
  a70 := Try.isAgg101
  z70 := Try.sizeOf101
  v70 := Try.zeroValue101
  t77 := Try.underlying104
  a77 := Try.isAgg104
  z77 := Try.sizeOf104
  v77 := Try.zeroValue104 }
open Go.RowKit Go.Lib Go.Sort in
/-- slices.medianAdjacentCmpFunc at elements of one cell. (LAID AT THE INSTANCE 'slices.medianAdjacentCmpFunc[int]': no walk: one application.) -/
theorem Try.medianAdjacentCmpFunc {α : Type} [Inhabited α] (enc : α → Value) (cf : α → α → Int) (g : Nat) (cb : Array Value) (blk off cap a c s : Nat) (d0 d : Array α) (w0 W : World) (eg : ∀ args w, (callFunc g args).run Try.prog w = .ok (.enter g args) w) (hcmp : CmpLays1 Try.prog g cb enc cf blk off d0.size w0) (R : Row1 enc w0 blk off d0) (hs : d0.size = d.size) (C : Cnt1 enc w0 blk off d c s W) (ha1 : 1 ≤ a) (ha2 : a + 1 < d.size) (hsz : d.size < 4611686018427387904) (hss : s + 3 < 4611686018427387904) :
    Calls Try.prog 94 #[.slice (some ⟨blk, off, none⟩) d.size cap, .int .i64 a, .pointer (some ⟨c, 0, none⟩), .func (.func g) #[] cb] W fun e w' =>
      e = .returned (.int .i64 (medianAdjacent (ltOf cf) d a s).1) ∧ Cnt1 enc w0 blk off d c (medianAdjacent (ltOf cf) d a s).2 w' := Any.medianAdjacentCmpFunc Try.laysSlF49_f94 enc cf g cb blk off cap a c s d0 d w0 W eg hcmp R hs C ha1 ha2 hsz hss
def Try.laysSlF23_f83_ren : Go.Shelf.Ren := ⟨fun | 23 => 83 | 49 => 94 | 50 => 95 | 57 => 96 | n => n, fun | 24 => 3 | 22 => 69 | 3 => 3 | 25 => 37 | 45 => 87 | 0 => 0 | 4 => 4 | 70 => 101 | 77 => 104 | n => n, fun | n => n⟩
theorem Try.laysSlF23_f83 : Go.Proofs.SlLaysF.n23 Try.prog Try.laysSlF23_f83_ren := {
  mixed := by kernel_rfl
  f23 := ⟨Try.f83.name, by decide, Try.func83.trans (congrArg some (by kernel_rfl))⟩
  f49 := ⟨Try.f94.name, by decide, Try.func94.trans (congrArg some (by kernel_rfl))⟩
  f50 := ⟨Try.f95.name, by decide, Try.func95.trans (congrArg some (by kernel_rfl))⟩
  f57 := ⟨Try.f96.name, by decide, Try.func96.trans (congrArg some (by kernel_rfl))⟩
  t0 := Try.underlying0
  a0 := Try.isAgg0
  z0 := Try.sizeOf0
  v0 := Try.zeroValue0
  t3 := Try.underlying3
  a3 := Try.isAgg3
  z3 := Try.sizeOf3
  v3 := Try.zeroValue3
  t4 := Try.underlying4
  a4 := Try.isAgg4
  z4 := Try.sizeOf4
  v4 := Try.zeroValue4
  t22 := Try.underlying69
  a22 := Try.isAgg69
  z22 := Try.sizeOf69
  v22 := Try.zeroValue69
  a24 := Try.isAgg3
  z24 := Try.sizeOf3
  t25 := Try.underlying37
  a25 := Try.isAgg37
  z25 := Try.sizeOf37
  v25 := Try.zeroValue37
  t45 := Try.underlying87
  a45 := Try.isAgg87
  z45 := Try.sizeOf87
  v45 := Try.zeroValue87
  t70 := Try.underlying101
  a70 := Try.isAgg101
  z70 := Try.sizeOf101
  v70 := Try.zeroValue101
  t77 := Try.underlying104
  a77 := Try.isAgg104
  z77 := Try.sizeOf104
  v77 := Try.zeroValue104 }
open Go.RowKit Go.Lib Go.Sort in
/-- slices.choosePivotCmpFunc at elements of one cell: THE LIBRARY's OWN TEXT COMPUTES 'Sort.choosePivot (ltOf cf) d a b'; the row is not turned. (After Derived/Shelf/SlSortFuncK/PivotK.lean, row for row; the counter's world by 'CntK'.) (LAID AT THE INSTANCE 'slices.choosePivotCmpFunc[int]': no walk: one application.) -/
theorem Try.choosePivotCmpFunc {α : Type} [Inhabited α] (enc : α → Value) (cf : α → α → Int) (g : Nat) (cb : Array Value) (blk off cap a b : Nat) (d0 d : Array α) (w0 W : World) (eg : ∀ args w, (callFunc g args).run Try.prog w = .ok (.enter g args) w) (hcmp : CmpLays1 Try.prog g cb enc cf blk off d0.size w0) (R : Row1 enc w0 blk off d0) (hs : d0.size = d.size) (S : SW enc w0 blk off d W) (hab : a < b) (hb : b ≤ d.size) (hsz : d.size < 4611686018427387904) :
    Calls Try.prog 83 #[.slice (some ⟨blk, off, none⟩) d.size cap, .int .i64 a, .int .i64 b, .func (.func g) #[] cb] W fun e w' =>
      e = .returned (.tuple #[.int .i64 (choosePivot (ltOf cf) d a b).1, .int .i64 (hintCode (choosePivot (ltOf cf) d a b).2)]) ∧ SW enc w0 blk off d w' := Any.choosePivotCmpFunc Try.laysSlF23_f83 enc cf g cb blk off cap a b d0 d w0 W eg hcmp R hs S hab hb hsz
def Try.laysSlF24_f84_ren : Go.Shelf.Ren := ⟨fun | 24 => 84 | n => n, fun | 24 => 3 | 22 => 69 | 3 => 3 | 25 => 37 | 4 => 4 | 0 => 0 | n => n, fun | n => n⟩
theorem Try.laysSlF24_f84 : Go.Proofs.SlLaysF.n24 Try.prog Try.laysSlF24_f84_ren := {
  mixed := by kernel_rfl
  f24 := ⟨Try.f84.name, by decide, Try.func84.trans (congrArg some (by kernel_rfl))⟩
  t0 := Try.underlying0
  a0 := Try.isAgg0
  z0 := Try.sizeOf0
  v0 := Try.zeroValue0
  t3 := Try.underlying3
  a3 := Try.isAgg3
  z3 := Try.sizeOf3
  v3 := Try.zeroValue3
  t4 := Try.underlying4
  a4 := Try.isAgg4
  z4 := Try.sizeOf4
  v4 := Try.zeroValue4
  t22 := Try.underlying69
  a22 := Try.isAgg69
  z22 := Try.sizeOf69
  v22 := Try.zeroValue69
  a24 := Try.isAgg3
  z24 := Try.sizeOf3
  t25 := Try.underlying37
  a25 := Try.isAgg37
  z25 := Try.sizeOf37
  v25 := Try.zeroValue37 }
open Go.RowKit Go.Lib Go.Sort in
/-- slices.reverseRangeCmpFunc at elements of one cell: it exchanges and does not compare. (LAID AT THE INSTANCE 'slices.reverseRangeCmpFunc[int]': no walk: one application.) -/
theorem Try.reverseRangeCmpFunc {α : Type} [Inhabited α] (enc : α → Value) (g : Nat) (cb : Array Value) (blk off cap a b : Nat) (d0 d : Array α) (w0 w : World) (R : Row1 enc w0 blk off d0) (hs : d0.size = d.size) (S : SW enc w0 blk off d w) (hab : a ≤ b) (hb : b ≤ d.size) (hsz : d.size < 4611686018427387904) :
    Calls Try.prog 84 #[.slice (some ⟨blk, off, none⟩) d.size cap, .int .i64 a, .int .i64 b, .func (.func g) #[] cb] w fun e w' => e = .returned (.tuple #[]) ∧ SW enc w0 blk off (reverseRange d a b) w' := Any.reverseRangeCmpFunc Try.laysSlF24_f84 enc g cb blk off cap a b d0 d w0 w R hs S hab hb hsz
def Try.laysSlF25_f85_ren : Go.Shelf.Ren := ⟨fun | 25 => 85 | n => n, fun | 24 => 3 | 22 => 69 | 3 => 3 | 25 => 37 | 4 => 4 | 0 => 0 | n => n, fun | n => n⟩
theorem Try.laysSlF25_f85 : Go.Proofs.SlLaysF.n25 Try.prog Try.laysSlF25_f85_ren := {
  mixed := by kernel_rfl
  f25 := ⟨Try.f85.name, by decide, Try.func85.trans (congrArg some (by kernel_rfl))⟩
  t0 := Try.underlying0
  a0 := Try.isAgg0
  z0 := Try.sizeOf0
  v0 := Try.zeroValue0
  t3 := Try.underlying3
  a3 := Try.isAgg3
  z3 := Try.sizeOf3
  v3 := Try.zeroValue3
  t4 := Try.underlying4
  a4 := Try.isAgg4
  z4 := Try.sizeOf4
  v4 := Try.zeroValue4
  t22 := Try.underlying69
  a22 := Try.isAgg69
  z22 := Try.sizeOf69
  v22 := Try.zeroValue69
  a24 := Try.isAgg3
  z24 := Try.sizeOf3
  t25 := Try.underlying37
  a25 := Try.isAgg37
  z25 := Try.sizeOf37
  v25 := Try.zeroValue37 }
open Go.RowKit Go.Lib Go.Sort in
/-- slices.partialInsertionSortCmpFunc at elements of one cell. (LAID AT THE INSTANCE 'slices.partialInsertionSortCmpFunc[int]': no walk: one application.) -/
theorem Try.partialInsertionSortCmpFunc {α : Type} [Inhabited α] (enc : α → Value) (cf : α → α → Int) (g : Nat) (cb : Array Value) (blk off cap a b : Nat) (d0 d : Array α) (w0 w : World) (eg : ∀ args w, (callFunc g args).run Try.prog w = .ok (.enter g args) w) (hcmp : CmpLays1 Try.prog g cb enc cf blk off d0.size w0) (R : Row1 enc w0 blk off d0) (hs : d0.size = d.size) (S : SW enc w0 blk off d w) (hab : a < b) (hb : b ≤ d.size) (hsz : d.size < 4611686018427387904) :
    Calls Try.prog 85 #[.slice (some ⟨blk, off, none⟩) d.size cap, .int .i64 a, .int .i64 b, .func (.func g) #[] cb] w fun e w' =>
      e = .returned (.bool (Sort.partialInsertionSort (ltOf cf) d a b).2) ∧ SW enc w0 blk off (Sort.partialInsertionSort (ltOf cf) d a b).1 w' := Any.partialInsertionSortCmpFunc Try.laysSlF25_f85 enc cf g cb blk off cap a b d0 d w0 w eg hcmp R hs S hab hb hsz
def Try.laysSlF26_f86_ren : Go.Shelf.Ren := ⟨fun | 26 => 86 | n => n, fun | 24 => 3 | 22 => 69 | 3 => 3 | 25 => 37 | 0 => 0 | 4 => 4 | n => n, fun | n => n⟩
theorem Try.laysSlF26_f86 : Go.Proofs.SlLaysF.n26 Try.prog Try.laysSlF26_f86_ren := {
  mixed := by kernel_rfl
  f26 := ⟨Try.f86.name, by decide, Try.func86.trans (congrArg some (by kernel_rfl))⟩
  t0 := Try.underlying0
  a0 := Try.isAgg0
  z0 := Try.sizeOf0
  v0 := Try.zeroValue0
  t3 := Try.underlying3
  a3 := Try.isAgg3
  z3 := Try.sizeOf3
  v3 := Try.zeroValue3
  t4 := Try.underlying4
  a4 := Try.isAgg4
  z4 := Try.sizeOf4
  v4 := Try.zeroValue4
  t22 := Try.underlying69
  a22 := Try.isAgg69
  z22 := Try.sizeOf69
  v22 := Try.zeroValue69
  a24 := Try.isAgg3
  z24 := Try.sizeOf3
  t25 := Try.underlying37
  a25 := Try.isAgg37
  z25 := Try.sizeOf37
  v25 := Try.zeroValue37 }
open Go.RowKit Go.Lib Go.Sort in
/-- slices.partitionEqualCmpFunc at elements of one cell. (After Derived/Shelf/SlSortFuncK/PartitionK.lean, row for row.) (LAID AT THE INSTANCE 'slices.partitionEqualCmpFunc[int]': no walk: one application.) -/
theorem Try.partitionEqualCmpFunc {α : Type} [Inhabited α] (enc : α → Value) (cf : α → α → Int) (g : Nat) (cb : Array Value) (blk off cap a b pivot : Nat) (d0 d : Array α) (w0 w : World) (eg : ∀ args w, (callFunc g args).run Try.prog w = .ok (.enter g args) w) (hcmp : CmpLays1 Try.prog g cb enc cf blk off d0.size w0) (R : Row1 enc w0 blk off d0) (hs : d0.size = d.size) (S : SW enc w0 blk off d w) (hap : a ≤ pivot) (hpb : pivot < b) (hb : b ≤ d.size) (hsz : d.size < 4611686018427387904) :
    Calls Try.prog 86 #[.slice (some ⟨blk, off, none⟩) d.size cap, .int .i64 a, .int .i64 b, .int .i64 pivot, .func (.func g) #[] cb] w fun e w' =>
      e = .returned (.int .i64 (Sort.partitionEqual (ltOf cf) d a b pivot).1) ∧ SW enc w0 blk off (Sort.partitionEqual (ltOf cf) d a b pivot).2 w' := Any.partitionEqualCmpFunc Try.laysSlF26_f86 enc cf g cb blk off cap a b pivot d0 d w0 w eg hcmp R hs S hap hpb hb hsz
def Try.laysSlF27_f87_ren : Go.Shelf.Ren := ⟨fun | 27 => 87 | n => n, fun | 24 => 3 | 22 => 69 | 3 => 3 | 25 => 37 | 4 => 4 | 0 => 0 | n => n, fun | n => n⟩
theorem Try.laysSlF27_f87 : Go.Proofs.SlLaysF.n27 Try.prog Try.laysSlF27_f87_ren := {
  mixed := by kernel_rfl
  f27 := ⟨Try.f87.name, by decide, Try.func87.trans (congrArg some (by kernel_rfl))⟩
  t0 := Try.underlying0
  a0 := Try.isAgg0
  z0 := Try.sizeOf0
  v0 := Try.zeroValue0
  t3 := Try.underlying3
  a3 := Try.isAgg3
  z3 := Try.sizeOf3
  v3 := Try.zeroValue3
  t4 := Try.underlying4
  a4 := Try.isAgg4
  z4 := Try.sizeOf4
  v4 := Try.zeroValue4
  t22 := Try.underlying69
  a22 := Try.isAgg69
  z22 := Try.sizeOf69
  v22 := Try.zeroValue69
  a24 := Try.isAgg3
  z24 := Try.sizeOf3
  t25 := Try.underlying37
  a25 := Try.isAgg37
  z25 := Try.sizeOf37
  v25 := Try.zeroValue37 }
open Go.RowKit Go.Lib Go.Sort in
/-- slices.partitionCmpFunc at elements of one cell. (After Derived/Shelf/SlSortFuncK/PartitionK.lean, row for row.) (LAID AT THE INSTANCE 'slices.partitionCmpFunc[int]': no walk: one application.) -/
theorem Try.partitionCmpFunc {α : Type} [Inhabited α] (enc : α → Value) (cf : α → α → Int) (g : Nat) (cb : Array Value) (blk off cap a b pivot : Nat) (d0 d : Array α) (w0 w : World) (eg : ∀ args w, (callFunc g args).run Try.prog w = .ok (.enter g args) w) (hcmp : CmpLays1 Try.prog g cb enc cf blk off d0.size w0) (R : Row1 enc w0 blk off d0) (hs : d0.size = d.size) (S : SW enc w0 blk off d w) (hap : a ≤ pivot) (hpb : pivot < b) (hb : b ≤ d.size) (hsz : d.size < 4611686018427387904) :
    Calls Try.prog 87 #[.slice (some ⟨blk, off, none⟩) d.size cap, .int .i64 a, .int .i64 b, .int .i64 pivot, .func (.func g) #[] cb] w fun e w' =>
      e = .returned (.tuple #[.int .i64 (Sort.partition (ltOf cf) d a b pivot).1, .bool (Sort.partition (ltOf cf) d a b pivot).2.1]) ∧ SW enc w0 blk off (Sort.partition (ltOf cf) d a b pivot).2.2 w' := Any.partitionCmpFunc Try.laysSlF27_f87 enc cf g cb blk off cap a b pivot d0 d w0 w eg hcmp R hs S hap hpb hb hsz
def Try.laysSlF14_f76_ren : Go.Shelf.Ren := ⟨fun | 14 => 76 | 20 => 80 | 21 => 81 | 22 => 82 | 23 => 83 | 24 => 84 | 25 => 85 | 26 => 86 | 27 => 87 | 46 => 91 | 47 => 92 | 48 => 93 | 49 => 94 | 50 => 95 | 15 => 77 | 57 => 96 | 28 => 88 | 29 => 89 | n => n, fun | 24 => 3 | 22 => 69 | 3 => 3 | 25 => 37 | 4 => 4 | 0 => 0 | 46 => 88 | 45 => 87 | 50 => 92 | 66 => 97 | 39 => 85 | 55 => 22 | 70 => 101 | 76 => 103 | 77 => 104 | 53 => 95 | 5 => 5 | 9 => 9 | n => n, fun | n => n⟩
theorem Try.laysSlF14_f76 : Go.Proofs.SlLaysF.n14 Try.prog Try.laysSlF14_f76_ren := {
  mixed := by kernel_rfl
  f14 := ⟨Try.f76.name, by decide, Try.func76.trans (congrArg some (by kernel_rfl))⟩
  f15 := Try.func77.trans (congrArg some (by kernel_rfl))
  f20 := ⟨Try.f80.name, by decide, Try.func80.trans (congrArg some (by kernel_rfl))⟩
  f21 := ⟨Try.f81.name, by decide, Try.func81.trans (congrArg some (by kernel_rfl))⟩
  f22 := ⟨Try.f82.name, by decide, Try.func82.trans (congrArg some (by kernel_rfl))⟩
  f23 := ⟨Try.f83.name, by decide, Try.func83.trans (congrArg some (by kernel_rfl))⟩
  f24 := ⟨Try.f84.name, by decide, Try.func84.trans (congrArg some (by kernel_rfl))⟩
  f25 := ⟨Try.f85.name, by decide, Try.func85.trans (congrArg some (by kernel_rfl))⟩
  f26 := ⟨Try.f86.name, by decide, Try.func86.trans (congrArg some (by kernel_rfl))⟩
  f27 := ⟨Try.f87.name, by decide, Try.func87.trans (congrArg some (by kernel_rfl))⟩
  f28 := Try.func88.trans (congrArg some (by kernel_rfl))
  f29 := Try.func89.trans (congrArg some (by kernel_rfl))
  f46 := ⟨Try.f91.name, by decide, Try.func91.trans (congrArg some (by kernel_rfl))⟩
  f47 := Try.func92.trans (congrArg some (by kernel_rfl))
  f48 := Try.func93.trans (congrArg some (by kernel_rfl))
  f49 := ⟨Try.f94.name, by decide, Try.func94.trans (congrArg some (by kernel_rfl))⟩
  f50 := ⟨Try.f95.name, by decide, Try.func95.trans (congrArg some (by kernel_rfl))⟩
  f57 := ⟨Try.f96.name, by decide, Try.func96.trans (congrArg some (by kernel_rfl))⟩
  t0 := Try.underlying0
  a0 := Try.isAgg0
  z0 := Try.sizeOf0
  v0 := Try.zeroValue0
  t3 := Try.underlying3
  a3 := Try.isAgg3
  z3 := Try.sizeOf3
  v3 := Try.zeroValue3
  t4 := Try.underlying4
  a4 := Try.isAgg4
  z4 := Try.sizeOf4
  v4 := Try.zeroValue4
  t5 := Try.underlying5
  a5 := Try.isAgg5
  z5 := Try.sizeOf5
  v5 := Try.zeroValue5
  t9 := Try.underlying9
  a9 := Try.isAgg9
  z9 := Try.sizeOf9
  v9 := Try.zeroValue9
  t22 := Try.underlying69
  a22 := Try.isAgg69
  z22 := Try.sizeOf69
  v22 := Try.zeroValue69
  a24 := Try.isAgg3
  z24 := Try.sizeOf3
  t25 := Try.underlying37
  a25 := Try.isAgg37
  z25 := Try.sizeOf37
  v25 := Try.zeroValue37
  t39 := Try.underlying85
  a39 := Try.isAgg85
  z39 := Try.sizeOf85
  v39 := Try.zeroValue85
  t45 := Try.underlying87
  a45 := Try.isAgg87
  z45 := Try.sizeOf87
  v45 := Try.zeroValue87
  t46 := Try.underlying88
  a46 := Try.isAgg88
  z46 := Try.sizeOf88
  v46 := Try.zeroValue88
  t50 := Try.underlying92
  a50 := Try.isAgg92
  z50 := Try.sizeOf92
  v50 := Try.zeroValue92
  t53 := Try.underlying95
  a53 := Try.isAgg95
  z53 := Try.sizeOf95
  v53 := Try.zeroValue95
  t55 := Try.underlying22
  a55 := Try.isAgg22
  z55 := Try.sizeOf22
  v55 := Try.zeroValue22
  t66 := Try.underlying97
  a66 := Try.isAgg97
  z66 := Try.sizeOf97
  v66 := Try.zeroValue97
  t70 := Try.underlying101
  a70 := Try.isAgg101
  z70 := Try.sizeOf101
  v70 := Try.zeroValue101
  t76 := Try.underlying103
  a76 := Try.isAgg103
  z76 := Try.sizeOf103
  v76 := Try.zeroValue103
  t77 := Try.underlying104
  a77 := Try.isAgg104
  z77 := Try.sizeOf104
  v77 := Try.zeroValue104 }
open Go.RowKit Go.Lib Go.Sort in
/-- slices.pdqsortCmpFunc at elements of one cell, WHOLE. (After Derived/Shelf/SlSortFuncK/PdqK.lean, row for row: the slots and the regions' numbers are this body's.) (LAID AT THE INSTANCE 'slices.pdqsortCmpFunc[int]': no walk: one application.) -/
theorem Try.pdqsortCmpFunc_all {α : Type} [Inhabited α] (enc : α → Value) (cf : α → α → Int) (g : Nat) (cb : Array Value) (hO : SWO (ltOf cf)) (blk off cap : Nat) (d0 : Array α) (w0 : World) (eg : ∀ args w, (callFunc g args).run Try.prog w = .ok (.enter g args) w) (hcmp : CmpLays1 Try.prog g cb enc cf blk off d0.size w0) (R : Row1 enc w0 blk off d0) :
    ∀ (N a b limit : Nat) (d : Array α) (w : World), b - a < N → d0.size = d.size → SW enc w0 blk off d w → a ≤ b → b ≤ d.size → d.size < 4611686018427387904 → limit < 4611686018427387904 → Below (ltOf cf) a b d →
    Calls Try.prog 76 #[.slice (some ⟨blk, off, none⟩) d.size cap, .int .i64 a, .int .i64 b, .int .i64 limit, .func (.func g) #[] cb] w fun e w' => e = .returned (.tuple #[]) ∧ SW enc w0 blk off (pdq (ltOf cf) d a b limit true true) w' := Any.pdqsortCmpFunc_all Try.laysSlF14_f76 enc cf g cb hO blk off cap d0 w0 eg hcmp R
def Try.laysSlF6_f69_ren : Go.Shelf.Ren := ⟨fun | 6 => 69 | 15 => 77 | 14 => 76 | 28 => 88 | 29 => 89 | 20 => 80 | 21 => 81 | 22 => 82 | 23 => 83 | 24 => 84 | 25 => 85 | 26 => 86 | 27 => 87 | 46 => 91 | 47 => 92 | 48 => 93 | 49 => 94 | 50 => 95 | 57 => 96 | n => n, fun | 22 => 69 | 24 => 3 | 25 => 37 | 3 => 3 | 39 => 85 | 0 => 0 | 53 => 95 | 55 => 22 | 4 => 4 | 46 => 88 | 45 => 87 | 50 => 92 | 5 => 5 | 9 => 9 | 66 => 97 | 70 => 101 | 76 => 103 | 77 => 104 | n => n, fun | n => n⟩
theorem Try.laysSlF6_f69 : Go.Proofs.SlLaysF.n6 Try.prog Try.laysSlF6_f69_ren := {
  mixed := by kernel_rfl
  f6 := ⟨Try.f69.name, by decide, Try.func69.trans (congrArg some (by kernel_rfl))⟩
  f14 := ⟨Try.f76.name, by decide, Try.func76.trans (congrArg some (by kernel_rfl))⟩
  f15 := Try.func77.trans (congrArg some (by kernel_rfl))
  f20 := ⟨Try.f80.name, by decide, Try.func80.trans (congrArg some (by kernel_rfl))⟩
  f21 := ⟨Try.f81.name, by decide, Try.func81.trans (congrArg some (by kernel_rfl))⟩
  f22 := ⟨Try.f82.name, by decide, Try.func82.trans (congrArg some (by kernel_rfl))⟩
  f23 := ⟨Try.f83.name, by decide, Try.func83.trans (congrArg some (by kernel_rfl))⟩
  f24 := ⟨Try.f84.name, by decide, Try.func84.trans (congrArg some (by kernel_rfl))⟩
  f25 := ⟨Try.f85.name, by decide, Try.func85.trans (congrArg some (by kernel_rfl))⟩
  f26 := ⟨Try.f86.name, by decide, Try.func86.trans (congrArg some (by kernel_rfl))⟩
  f27 := ⟨Try.f87.name, by decide, Try.func87.trans (congrArg some (by kernel_rfl))⟩
  f28 := Try.func88.trans (congrArg some (by kernel_rfl))
  f29 := Try.func89.trans (congrArg some (by kernel_rfl))
  f46 := ⟨Try.f91.name, by decide, Try.func91.trans (congrArg some (by kernel_rfl))⟩
  f47 := Try.func92.trans (congrArg some (by kernel_rfl))
  f48 := Try.func93.trans (congrArg some (by kernel_rfl))
  f49 := ⟨Try.f94.name, by decide, Try.func94.trans (congrArg some (by kernel_rfl))⟩
  f50 := ⟨Try.f95.name, by decide, Try.func95.trans (congrArg some (by kernel_rfl))⟩
  f57 := ⟨Try.f96.name, by decide, Try.func96.trans (congrArg some (by kernel_rfl))⟩
  t0 := Try.underlying0
  a0 := Try.isAgg0
  z0 := Try.sizeOf0
  v0 := Try.zeroValue0
  t3 := Try.underlying3
  a3 := Try.isAgg3
  z3 := Try.sizeOf3
  v3 := Try.zeroValue3
  t4 := Try.underlying4
  a4 := Try.isAgg4
  z4 := Try.sizeOf4
  v4 := Try.zeroValue4
  t5 := Try.underlying5
  a5 := Try.isAgg5
  z5 := Try.sizeOf5
  v5 := Try.zeroValue5
  t9 := Try.underlying9
  a9 := Try.isAgg9
  z9 := Try.sizeOf9
  v9 := Try.zeroValue9
  t22 := Try.underlying69
  a22 := Try.isAgg69
  z22 := Try.sizeOf69
  v22 := Try.zeroValue69
  a24 := Try.isAgg3
  z24 := Try.sizeOf3
  t25 := Try.underlying37
  a25 := Try.isAgg37
  z25 := Try.sizeOf37
  v25 := Try.zeroValue37
  t39 := Try.underlying85
  a39 := Try.isAgg85
  z39 := Try.sizeOf85
  v39 := Try.zeroValue85
  t45 := Try.underlying87
  a45 := Try.isAgg87
  z45 := Try.sizeOf87
  v45 := Try.zeroValue87
  t46 := Try.underlying88
  a46 := Try.isAgg88
  z46 := Try.sizeOf88
  v46 := Try.zeroValue88
  t50 := Try.underlying92
  a50 := Try.isAgg92
  z50 := Try.sizeOf92
  v50 := Try.zeroValue92
  t53 := Try.underlying95
  a53 := Try.isAgg95
  z53 := Try.sizeOf95
  v53 := Try.zeroValue95
  t55 := Try.underlying22
  a55 := Try.isAgg22
  z55 := Try.sizeOf22
  v55 := Try.zeroValue22
  t66 := Try.underlying97
  a66 := Try.isAgg97
  z66 := Try.sizeOf97
  v66 := Try.zeroValue97
  t70 := Try.underlying101
  a70 := Try.isAgg101
  z70 := Try.sizeOf101
  v70 := Try.zeroValue101
  t76 := Try.underlying103
  a76 := Try.isAgg103
  z76 := Try.sizeOf103
  v76 := Try.zeroValue103
  t77 := Try.underlying104
  a77 := Try.isAgg104
  z77 := Try.sizeOf104
  v77 := Try.zeroValue104 }
open Go.RowKit Go.Lib Go.Sort in
/-- **slices.SortFunc: WHAT THE ROW HOLDS, TO THE ELEMENT.** (LAID AT THE INSTANCE 'slices.SortFunc[[]int,int]': no walk: one application.) -/
theorem Try.slices_SortFunc_eq {α : Type} [Inhabited α] (enc : α → Value) (h1 : OneCell enc) (cf : α → α → Int) (hO : SWO (ltOf cf)) (g : Nat) (cb : Array Value) (blk off cap : Nat) (d : Array α) (w : World) (eg : ∀ args w, (callFunc g args).run Try.prog w = .ok (.enter g args) w) (hcmp : CmpLays1 Try.prog g cb enc cf blk off d.size w) (hH : Holds enc w blk off d) (hblk : blk < w.heap.size) (hsz : d.size < 4611686018427387904) :
    Calls Try.prog 69 #[.slice (some ⟨blk, off, none⟩) d.size cap, .func (.func g) #[] cb] w fun e w' =>
      e = .returned (.tuple #[]) ∧ ∃ n os, w' = sortWorld enc w blk off n (pdq (ltOf cf) d 0 d.size (Lib.bitLen d.size) true true) os := Any.slices_SortFunc_eq Try.laysSlF6_f69 enc h1 cf hO g cb blk off cap d w eg hcmp hH hblk hsz
open Go.RowKit Go.Lib Go.Sort in
/-- **slices.SortFunc, IN THE DOCUMENTATION's OWN TERMS: A PERMUTATION OF WHAT THE ROW HELD, SORTED BY 'cmp(a, b) < 0'.** Which of two equals comes first is left open ("The sort is not guaranteed to be stable"). (LAID AT THE INSTANCE 'slices.SortFunc[[]int,int]': no walk: one application.) -/
theorem Try.slices_SortFunc {α : Type} [Inhabited α] (enc : α → Value) (h1 : OneCell enc) (cf : α → α → Int) (hO : SWO (ltOf cf)) (g : Nat) (cb : Array Value) (blk off cap : Nat) (d : Array α) (w : World) (eg : ∀ args w, (callFunc g args).run Try.prog w = .ok (.enter g args) w) (hcmp : CmpLays1 Try.prog g cb enc cf blk off d.size w) (hH : Holds enc w blk off d) (hblk : blk < w.heap.size) (hsz : d.size < 4611686018427387904) :
    Calls Try.prog 69 #[.slice (some ⟨blk, off, none⟩) d.size cap, .func (.func g) #[] cb] w fun e w' =>
      e = .returned (.tuple #[]) ∧ ∃ d' n os, PermIn 0 d.size d d' ∧ SortedIn (ltOf cf) 0 d.size d' ∧ w' = sortWorld enc w blk off n d' os := Any.slices_SortFunc Try.laysSlF6_f69 enc h1 cf hO g cb blk off cap d w eg hcmp hH hblk hsz
def Try.laysSlF020_f80_ren : Go.Shelf.Ren := ⟨fun | 20 => 80 | n => n, fun | 24 => 3 | 22 => 69 | 3 => 3 | 25 => 37 | 4 => 4 | 0 => 0 | n => n, fun | n => n⟩
theorem Try.laysSlF020_f80 : Go.Proofs.SlLaysF0.n20 Try.prog Try.laysSlF020_f80_ren := {
  mixed := by kernel_rfl
  f20 := ⟨Try.f80.name, by decide, Try.func80.trans (congrArg some (by kernel_rfl))⟩
  t0 := Try.underlying0
  a0 := Try.isAgg0
  z0 := Try.sizeOf0
  v0 := Try.zeroValue0
  t3 := Try.underlying3
  a3 := Try.isAgg3
  z3 := Try.sizeOf3
  v3 := Try.zeroValue3
  t4 := Try.underlying4
  a4 := Try.isAgg4
  z4 := Try.sizeOf4
  v4 := Try.zeroValue4
  t22 := Try.underlying69
  a22 := Try.isAgg69
  z22 := Try.sizeOf69
  v22 := Try.zeroValue69
  t25 := Try.underlying37
  a25 := Try.isAgg37
  z25 := Try.sizeOf37
  v25 := Try.zeroValue37 }
open Go.RowKit Go.Lib Go.Sort in
theorem Try.insertionSortCmpFunc_none {α : Type} [Inhabited α] (p : Option Addr) (cap : Nat) (fv : Value) (w : World) :
    Calls Try.prog 80 #[.slice p 0 cap, .int .i64 0, .int .i64 0, fv] w fun e w' => e = .returned (.tuple #[]) ∧ w' = w := AnyF.insertionSortCmpFunc_none Try.laysSlF020_f80 p cap fv w
def Try.laysSlF014_f76_ren : Go.Shelf.Ren := ⟨fun | 14 => 76 | 20 => 80 | 21 => 81 | 22 => 82 | 23 => 83 | 24 => 84 | 25 => 85 | 26 => 86 | 27 => 87 | 46 => 91 | 47 => 92 | 48 => 93 | 49 => 94 | 50 => 95 | 15 => 77 | 57 => 96 | 28 => 88 | 29 => 89 | n => n, fun | 24 => 3 | 22 => 69 | 3 => 3 | 25 => 37 | 4 => 4 | 0 => 0 | 46 => 88 | 45 => 87 | 50 => 92 | 66 => 97 | 39 => 85 | 55 => 22 | 70 => 101 | 76 => 103 | 77 => 104 | 53 => 95 | 5 => 5 | 9 => 9 | n => n, fun | n => n⟩
theorem Try.laysSlF014_f76 : Go.Proofs.SlLaysF0.n14 Try.prog Try.laysSlF014_f76_ren := {
  mixed := by kernel_rfl
  f14 := ⟨Try.f76.name, by decide, Try.func76.trans (congrArg some (by kernel_rfl))⟩
  f15 := Try.func77.trans (congrArg some (by kernel_rfl))
  f20 := ⟨Try.f80.name, by decide, Try.func80.trans (congrArg some (by kernel_rfl))⟩
  f21 := ⟨Try.f81.name, by decide, Try.func81.trans (congrArg some (by kernel_rfl))⟩
  f22 := ⟨Try.f82.name, by decide, Try.func82.trans (congrArg some (by kernel_rfl))⟩
  f23 := ⟨Try.f83.name, by decide, Try.func83.trans (congrArg some (by kernel_rfl))⟩
  f24 := ⟨Try.f84.name, by decide, Try.func84.trans (congrArg some (by kernel_rfl))⟩
  f25 := ⟨Try.f85.name, by decide, Try.func85.trans (congrArg some (by kernel_rfl))⟩
  f26 := ⟨Try.f86.name, by decide, Try.func86.trans (congrArg some (by kernel_rfl))⟩
  f27 := ⟨Try.f87.name, by decide, Try.func87.trans (congrArg some (by kernel_rfl))⟩
  f28 := Try.func88.trans (congrArg some (by kernel_rfl))
  f29 := Try.func89.trans (congrArg some (by kernel_rfl))
  f46 := ⟨Try.f91.name, by decide, Try.func91.trans (congrArg some (by kernel_rfl))⟩
  f47 := Try.func92.trans (congrArg some (by kernel_rfl))
  f48 := Try.func93.trans (congrArg some (by kernel_rfl))
  f49 := ⟨Try.f94.name, by decide, Try.func94.trans (congrArg some (by kernel_rfl))⟩
  f50 := ⟨Try.f95.name, by decide, Try.func95.trans (congrArg some (by kernel_rfl))⟩
  f57 := ⟨Try.f96.name, by decide, Try.func96.trans (congrArg some (by kernel_rfl))⟩
  t0 := Try.underlying0
  a0 := Try.isAgg0
  z0 := Try.sizeOf0
  v0 := Try.zeroValue0
  t3 := Try.underlying3
  a3 := Try.isAgg3
  z3 := Try.sizeOf3
  v3 := Try.zeroValue3
  t4 := Try.underlying4
  a4 := Try.isAgg4
  z4 := Try.sizeOf4
  v4 := Try.zeroValue4
  t5 := Try.underlying5
  a5 := Try.isAgg5
  z5 := Try.sizeOf5
  v5 := Try.zeroValue5
  t9 := Try.underlying9
  a9 := Try.isAgg9
  z9 := Try.sizeOf9
  v9 := Try.zeroValue9
  t22 := Try.underlying69
  a22 := Try.isAgg69
  z22 := Try.sizeOf69
  v22 := Try.zeroValue69
  t25 := Try.underlying37
  a25 := Try.isAgg37
  z25 := Try.sizeOf37
  v25 := Try.zeroValue37
  t39 := Try.underlying85
  a39 := Try.isAgg85
  z39 := Try.sizeOf85
  v39 := Try.zeroValue85
  t45 := Try.underlying87
  a45 := Try.isAgg87
  z45 := Try.sizeOf87
  v45 := Try.zeroValue87
  t46 := Try.underlying88
  a46 := Try.isAgg88
  z46 := Try.sizeOf88
  v46 := Try.zeroValue88
  t50 := Try.underlying92
  a50 := Try.isAgg92
  z50 := Try.sizeOf92
  v50 := Try.zeroValue92
  t53 := Try.underlying95
  a53 := Try.isAgg95
  z53 := Try.sizeOf95
  v53 := Try.zeroValue95
  t55 := Try.underlying22
  a55 := Try.isAgg22
  z55 := Try.sizeOf22
  v55 := Try.zeroValue22
  t66 := Try.underlying97
  a66 := Try.isAgg97
  z66 := Try.sizeOf97
  v66 := Try.zeroValue97
  t70 := Try.underlying101
  a70 := Try.isAgg101
  z70 := Try.sizeOf101
  v70 := Try.zeroValue101
  t76 := Try.underlying103
  a76 := Try.isAgg103
  z76 := Try.sizeOf103
  v76 := Try.zeroValue103
  t77 := Try.underlying104
  a77 := Try.isAgg104
  z77 := Try.sizeOf104
  v77 := Try.zeroValue104 }
open Go.RowKit Go.Lib Go.Sort in
theorem Try.pdqsortCmpFunc_none {α : Type} [Inhabited α] (p : Option Addr) (cap : Nat) (lim : Int) (fv : Value) (w : World) :
    Calls Try.prog 76 #[.slice p 0 cap, .int .i64 0, .int .i64 0, .int .i64 lim, fv] w fun e w' => e = .returned (.tuple #[]) ∧ w' = w := AnyF.pdqsortCmpFunc_none Try.laysSlF014_f76 p cap lim fv w
def Try.laysSlF06_f69_ren : Go.Shelf.Ren := ⟨fun | 6 => 69 | 15 => 77 | 14 => 76 | 28 => 88 | 29 => 89 | 20 => 80 | 21 => 81 | 22 => 82 | 23 => 83 | 24 => 84 | 25 => 85 | 26 => 86 | 27 => 87 | 46 => 91 | 47 => 92 | 48 => 93 | 49 => 94 | 50 => 95 | 57 => 96 | n => n, fun | 22 => 69 | 24 => 3 | 25 => 37 | 3 => 3 | 39 => 85 | 0 => 0 | 53 => 95 | 55 => 22 | 4 => 4 | 46 => 88 | 45 => 87 | 50 => 92 | 5 => 5 | 9 => 9 | 66 => 97 | 70 => 101 | 76 => 103 | 77 => 104 | n => n, fun | n => n⟩
theorem Try.laysSlF06_f69 : Go.Proofs.SlLaysF0.n6 Try.prog Try.laysSlF06_f69_ren := {
  mixed := by kernel_rfl
  f6 := ⟨Try.f69.name, by decide, Try.func69.trans (congrArg some (by kernel_rfl))⟩
  f14 := ⟨Try.f76.name, by decide, Try.func76.trans (congrArg some (by kernel_rfl))⟩
  f15 := Try.func77.trans (congrArg some (by kernel_rfl))
  f20 := ⟨Try.f80.name, by decide, Try.func80.trans (congrArg some (by kernel_rfl))⟩
  f21 := ⟨Try.f81.name, by decide, Try.func81.trans (congrArg some (by kernel_rfl))⟩
  f22 := ⟨Try.f82.name, by decide, Try.func82.trans (congrArg some (by kernel_rfl))⟩
  f23 := ⟨Try.f83.name, by decide, Try.func83.trans (congrArg some (by kernel_rfl))⟩
  f24 := ⟨Try.f84.name, by decide, Try.func84.trans (congrArg some (by kernel_rfl))⟩
  f25 := ⟨Try.f85.name, by decide, Try.func85.trans (congrArg some (by kernel_rfl))⟩
  f26 := ⟨Try.f86.name, by decide, Try.func86.trans (congrArg some (by kernel_rfl))⟩
  f27 := ⟨Try.f87.name, by decide, Try.func87.trans (congrArg some (by kernel_rfl))⟩
  f28 := Try.func88.trans (congrArg some (by kernel_rfl))
  f29 := Try.func89.trans (congrArg some (by kernel_rfl))
  f46 := ⟨Try.f91.name, by decide, Try.func91.trans (congrArg some (by kernel_rfl))⟩
  f47 := Try.func92.trans (congrArg some (by kernel_rfl))
  f48 := Try.func93.trans (congrArg some (by kernel_rfl))
  f49 := ⟨Try.f94.name, by decide, Try.func94.trans (congrArg some (by kernel_rfl))⟩
  f50 := ⟨Try.f95.name, by decide, Try.func95.trans (congrArg some (by kernel_rfl))⟩
  f57 := ⟨Try.f96.name, by decide, Try.func96.trans (congrArg some (by kernel_rfl))⟩
  t0 := Try.underlying0
  a0 := Try.isAgg0
  z0 := Try.sizeOf0
  v0 := Try.zeroValue0
  t3 := Try.underlying3
  a3 := Try.isAgg3
  z3 := Try.sizeOf3
  v3 := Try.zeroValue3
  t4 := Try.underlying4
  a4 := Try.isAgg4
  z4 := Try.sizeOf4
  v4 := Try.zeroValue4
  t5 := Try.underlying5
  a5 := Try.isAgg5
  z5 := Try.sizeOf5
  v5 := Try.zeroValue5
  t9 := Try.underlying9
  a9 := Try.isAgg9
  z9 := Try.sizeOf9
  v9 := Try.zeroValue9
  t22 := Try.underlying69
  a22 := Try.isAgg69
  z22 := Try.sizeOf69
  v22 := Try.zeroValue69
  t25 := Try.underlying37
  a25 := Try.isAgg37
  z25 := Try.sizeOf37
  v25 := Try.zeroValue37
  t39 := Try.underlying85
  a39 := Try.isAgg85
  z39 := Try.sizeOf85
  v39 := Try.zeroValue85
  t45 := Try.underlying87
  a45 := Try.isAgg87
  z45 := Try.sizeOf87
  v45 := Try.zeroValue87
  t46 := Try.underlying88
  a46 := Try.isAgg88
  z46 := Try.sizeOf88
  v46 := Try.zeroValue88
  t50 := Try.underlying92
  a50 := Try.isAgg92
  z50 := Try.sizeOf92
  v50 := Try.zeroValue92
  t53 := Try.underlying95
  a53 := Try.isAgg95
  z53 := Try.sizeOf95
  v53 := Try.zeroValue95
  t55 := Try.underlying22
  a55 := Try.isAgg22
  z55 := Try.sizeOf22
  v55 := Try.zeroValue22
  t66 := Try.underlying97
  a66 := Try.isAgg97
  z66 := Try.sizeOf97
  v66 := Try.zeroValue97
  t70 := Try.underlying101
  a70 := Try.isAgg101
  z70 := Try.sizeOf101
  v70 := Try.zeroValue101
  t76 := Try.underlying103
  a76 := Try.isAgg103
  z76 := Try.sizeOf103
  v76 := Try.zeroValue103
  t77 := Try.underlying104
  a77 := Try.isAgg104
  z77 := Try.sizeOf104
  v77 := Try.zeroValue104 }
open Go.RowKit Go.Lib Go.Sort in
/-- **slices.SortFunc AT NO ELEMENT, A nil SLICE TOO: nothing turns.** (LAID AT THE INSTANCE 'slices.SortFunc[[]int,int]': no walk: one application.) -/
theorem Try.slices_SortFunc_none {α : Type} [Inhabited α] (p : Option Addr) (cap : Nat) (fv : Value) (w : World) :
    Calls Try.prog 69 #[.slice p 0 cap, fv] w fun e w' => e = .returned (.tuple #[]) ∧ w' = w := AnyF.slices_SortFunc_none Try.laysSlF06_f69 p cap fv w
open Go.RowKit Go.Lib Go.Sort in
/-- **slices.SortFunc AT ONE CELL, UNDER A 'cmp' THAT PARTS WHATEVER TWO THAT ARE NOT ONE: THE ROW HOLDS core's 'mergeSort'.** (LAID AT THE INSTANCE 'slices.SortFunc[[]int,int]': no walk: one application.) -/
theorem Try.slices_SortFunc_total {α : Type} [Inhabited α] (enc : α → Value) (h1 : OneCell enc) (cf : α → α → Int) (hO : SWO (ltOf cf)) (g : Nat) (cb : Array Value) (blk off cap : Nat) (d : Array α) (w : World) (eg : ∀ args w, (callFunc g args).run Try.prog w = .ok (.enter g args) w) (hcmp : CmpLays1 Try.prog g cb enc cf blk off d.size w) (hH : Holds enc w blk off d) (hblk : blk < w.heap.size) (hsz : d.size < 4611686018427387904) (hT : ∀ x y, (ltOf cf) x y = false → (ltOf cf) y x = false → x = y) :
    Calls Try.prog 69 #[.slice (some ⟨blk, off, none⟩) d.size cap, .func (.func g) #[] cb] w fun e w' =>
      e = .returned (.tuple #[]) ∧ ∃ n os, w' = sortWorld enc w blk off n (d.toList.mergeSort fun x y => !(ltOf cf) y x).toArray os := Any.slices_SortFunc_total Try.laysSlF6_f69 enc h1 cf hO g cb blk off cap d w eg hcmp hH hblk hsz hT
end Go.Proofs

/-
  Trees: the first error in the keys of a node (keyed). Conditions: the node lies in memory; at most 4096 keys.
-/
namespace Go.Proofs.Ytfbeepkogcmlmaa
open Go Go.ChangeShapes Go.WideShapes Go.ChangeAt Go.RowKit Go.Joins Go.Deep
set_option linter.unusedVariables false
set_option linter.unusedSimpArgs false

theorem key_str {a b : ByteArray} (h : a.data.toList = b.data.toList) : a = b := by
  cases a; cases b; simp at h ⊢; exact h
/-- Whether the byte 00 occurs. -/
def zeroB (s : ByteArray) : Bool := decide ((0 : UInt8) ∈ s.data.toList)
theorem zeroB_index (s : ByteArray) : zeroB s = decide (0 ≤ Lib.indexByte s.data.toList 0) := by
  have h := Lib.contains_iff_indexByte s.data.toList 0
  unfold zeroB
  simpa using h
set_option maxRecDepth 100000 in
theorem zero1_any (s : ByteArray) (w : World) : Calls Try.prog 59 #[.string s] w fun r w' => r = .returned (.bool (zeroB s)) ∧ w' = w := by
  have hc := Try.strings_IndexByte s 0 w
  rw [show ((0 : Int).toNat.toUInt8) = 0 from rfl] at hc
  have HE : Hid (zeroB s = decide (0 ≤ Lib.indexByte s.data.toList 0)) := zeroB_index s
  generalize Lib.indexByte s.data.toList 0 = q at *
  have HC := Lib.hid hc
  clear hc
  go_enter Try.func59, Try.ntmps59
  go_wp2_with fail
  refine HC.out.mono ?_
  rintro r w' ⟨rfl, rfl⟩
  go_wp2_with fail
  go_ret
  exact ⟨by rw [HE.out]; rfl, rfl⟩

/-- Whether a string occurs in a list. -/
def seenB (k : ByteArray) (l : List ByteArray) : Bool := l.any fun x => decide (x = k)
theorem seenB_iff (k : ByteArray) (l : List ByteArray) : seenB k l = true ↔ k ∈ l := by simp [seenB]
/-- The errors of a list of keys, those of had being there already. -/
def keysE : List ByteArray → List ByteArray → Int
  | _, [] => 0
  | had, k :: r => if zeroB k = true then 70 else if seenB k had = true then 71 else keysE (had ++ [k]) r
def keyedE : Tr → Int | .mk k n u s keys l => if k = 5 ∧ zeroB s = true then 70 else keysE [] keys

/-- The set of the keys seen, as a datum. -/
def SetD (l : List ByteArray) : DataW Unit := l.foldl (fun D k => D.put (.string k.data.toList) (.lit (.bool true))) (.map [])
theorem SetD_snoc (l : List ByteArray) (k : ByteArray) : SetD (l ++ [k]) = (SetD l).put (.string k.data.toList) (.lit (.bool true)) := by simp [SetD]
theorem put_map {H : Type} {D : DataW H} (h : Go.Maps.IsMap D) (k : Lit) (d : DataW H) : Go.Maps.IsMap (D.put k d) := by
  obtain ⟨es, rfl⟩ := h
  exact ⟨_, rfl⟩
theorem SetD_map (l : List ByteArray) : Go.Maps.IsMap (SetD l) := by
  unfold SetD
  suffices h : ∀ (l : List ByteArray) (D : DataW Unit), Go.Maps.IsMap D → Go.Maps.IsMap (l.foldl (fun D k => D.put (.string k.data.toList) (.lit (.bool true))) D) from h l _ ⟨[], rfl⟩
  intro l
  induction l with
  | nil => intro D h; exact h
  | cons k r ih => intro D h; exact ih _ (put_map h _ _)
theorem SetD_at (k : ByteArray) (l : List ByteArray) : (SetD l).atKey (.string k.data.toList) (.lit (.bool false)) = .lit (.bool (seenB k l)) := by
  obtain ⟨m, hm⟩ : ∃ m, m = l.length := ⟨_, rfl⟩
  induction m generalizing l with
  | zero =>
    obtain rfl := List.length_eq_zero_iff.1 hm.symm
    rfl
  | succ m ih =>
    obtain ⟨l, x, rfl⟩ : ∃ l' x, l = l' ++ [x] := ⟨l.dropLast, l.getLast (by intro e; subst e; simp at hm), (List.dropLast_concat_getLast _).symm⟩
    rw [SetD_snoc]
    by_cases e : k = x
    · subst e
      rw [Go.Maps.atKey_put_same (SetD_map l) (by simp [WideAt.IsKeyLit])]
      simp [seenB]
    · rw [Go.Maps.atKey_put_other (fun h => e (key_str (by injection h))), ih l (by simp at hm; omega)]
      simp [seenB, Ne.symm e, fun h => e (Eq.symm h)]
theorem plainElem_bool_inv {H : Type} {P : Program} {e : TypeId} (he : P.underlying e = some .bool) {v : Value} {z : DataW H × List MemPlace} (h : plainElem P e v = some z) : ∃ x, v = .bool x ∧ z = (.lit (.bool x), []) := by
  unfold plainElem at h
  rw [he] at h
  cases v <;> simp at h
  exact ⟨_, rfl, h.symm⟩
theorem wpList_lookup_own_bool {H : Type} {P : Program} (w : World) {ops : Array Oper} {rest : List Oper} {o : Oper} {a : Act} {Q : Exit → Act → World → Prop}
    (hg : o.guard = none) (m x : Operand) (t : TypeId) (hop : o.op = Op.lookup t m x false)
    (k e : TypeId) (K : Go.Maps.Keyed P k) (ht : P.underlying t = some (.map k e)) (he : P.underlying e = some .bool) (hz : (zeroValue e).run P w = .ok (.bool false) w) (b n : Nat) (D : DataW H)
    (hm : a.eval m = .map (some b)) (hown : w.ownsMap P k (plainElem P e) b n D) (key : Value) (kl : Lit) (hx : a.eval x = key) (hkey : keyOf P k key = some kl) (y : Bool) (hat : D.atKey kl (.lit (.bool false)) = .lit (.bool y))
    (hK : wpList P ops Q rest (a.put o.dst (.bool y)) w) :
    wpList P ops Q (o :: rest) a w := by
  refine wpList_plain hg fun K' hK' => ?_
  obtain ⟨v, ps, hrun, hv⟩ := hown.lookup K ht hz (plainElem_bool he false) hkey
  obtain ⟨c, rfl, hc⟩ := plainElem_bool_inv he hv
  simp only [Prod.mk.injEq] at hc
  rw [hat] at hc
  obtain ⟨hc, _⟩ := hc
  injection hc with hc
  injection hc with hc
  subst hc
  unfold Oper.wp
  simp [execOp, hop, hm, hx, hrun, Result.andThen]
  exact hK' _ _ hK
theorem keysE_take {keys : List ByteArray} {i : Nat} {x : ByteArray} (h : keys[i]? = some x) : keysE (keys.take i) (keys.drop i) = if zeroB x = true then 70 else if seenB x (keys.take i) = true then 71 else keysE (keys.take (i + 1)) (keys.drop (i + 1)) := by
  obtain ⟨hl, hx⟩ := List.getElem?_eq_some_iff.1 h
  rw [List.drop_eq_getElem_cons hl, hx]
  simp only [keysE]
  rw [List.take_add_one, h]
  rfl
set_option maxRecDepth 100000 in
set_option maxHeartbeats 2000000 in
theorem keyed_any (t : Tr) (v : Value) (w : World) (hn : NodeAt w t v) :
    Calls Try.prog 37 #[v] w fun r w' => r = .returned (.int .i64 (keyedE t)) ∧ Grew w w' := by
  obtain ⟨k, n, u, s, keys, l⟩ := t
  simp only [NodeAt] at hn
  obtain ⟨hb, kv, lv, vs, rfl, hks, hrows, hkids⟩ := hn
  have HKS := Lib.hid hks
  obtain ⟨a4, c4, rfl, hkc, hkm, hx3, hx4⟩ := hks
  obtain ⟨a5, c5, rfl, hll, hc5, hx5, hx6⟩ := hrows
  have hmm := @run_makeMap Try.prog
  have hk4 : keys.length ≤ 9223372036854775807 := by unfold lenok at hkm; omega
  clear hx3 hx4 hx5 hx6 hll hc5 hkids hkc hkm hb
  by_cases hz : k = 5 ∧ zeroB s = true
  · obtain ⟨rfl, hz⟩ := hz
    have HF : Hid (keyedE (.mk 5 n u s keys l) = 70) := by show _ = _; simp [keyedE, hz]
    go_enter Try.func37, Try.ntmps37
    go_wp2_with (go_at_call 59; refine (zero1_any _ _).mono ?_; rintro r w2 ⟨rfl, rfl⟩; rw [hz])
    go_ret
    exact ⟨by rw [HF.out]; rfl, (Grew.refl w).alloc _⟩
  have HF : Hid (keyedE (.mk k n u s keys l) = keysE [] keys) := by show _ = _; simp only [keyedE]; rw [if_neg hz]
  have hz5 : k = 5 → zeroB s = false := fun h => by simpa [h] using hz
  clear hz
  generalize keyedE (.mk k n u s keys l) = E at *
  by_cases h5 : k = 5
  · have hz := hz5 h5
    subst h5
    clear hz5
    go_enter Try.func37, Try.ntmps37
    go_wp2_with (go_at_call 59; refine (zero1_any _ _).mono ?_; rintro r w2 ⟨rfl, rfl⟩; rw [hz])
    go_loopw [20] (fun i wr => ∃ j : Nat, j ≤ keys.length ∧ i = .int .i64 j ∧ Hid (wr.ownsMap Try.prog 9 (plainElem Try.prog 4) (w.heap.size + 1) j (SetD (keys.take j)) ∧ Grew w wr ∧ keysE (keys.take j) (keys.drop j) = keysE [] keys)) (fun i _ => keys.length - (intOf i).toNat)
    case atStart =>
      refine ⟨0, Nat.zero_le _, rfl, ?_⟩
      show _ ∧ _ ∧ _
      exact ⟨by have := World.ownsMap_made (H := Unit) (w.alloc (.cells #[.int .i64 5, .int .i64 n, .int .u64 u, .string s, .slice a4 keys.length c4, .slice a5 vs.length c5] 26)) Try.prog 9 (plainElem Try.prog 4); rw [World.size_alloc] at this; exact this, ((Grew.refl w).alloc _).alloc _, rfl⟩
    case round =>
      obtain ⟨j, hj, rfl, HW⟩ := hrel
      by_cases hlt : j < keys.length
      · obtain ⟨x, hx⟩ : ∃ x, keys[j]? = some x := ⟨_, List.getElem?_eq_getElem hlt⟩
        have HT := Lib.hid (keysE_take hx)
        have HTK : Hid (keys.take j ++ [x] = keys.take (j + 1)) := by show _ = _; rw [List.take_add_one, hx]; rfl
        obtain ⟨lx, b, off, rfl, hcx⟩ : ∃ (lx : lenok x.size) (b off : Nat), a4 = some ⟨b, off, none⟩ ∧ wr.cell? ⟨b, off + j, none⟩ = some (.string x) := by
          obtain ⟨a, c, e, _, _, _, h⟩ := HKS.out
          injection e with e1 e2 e3
          subst e1
          obtain ⟨hx1, b, off, e, hc⟩ := h j x hx
          exact ⟨hx1, b, off, e, HW.out.2.1.cell hc⟩
        have hkey : Hid (keyOf Try.prog 9 (.string x) = some (.string x.data.toList)) := Go.WideMaps.keyOf_string_mk Try.underlying9 (by unfold lenok at lx; unfold maxLen; omega)
        clear hx lx
        have hlti : (j : Int) < keys.length := by omega
        by_cases h0 : zeroB x = true
        · have HF2 : Hid (E = 70) := by
            show _ = _
            rw [HF.out, ← HW.out.2.2, HT.out, if_pos h0]
          go_wp2_with (go_at_call 59; refine (zero1_any _ _).mono ?_; rintro r w2 ⟨rfl, rfl⟩; rw [h0])
          go_ret
          exact ⟨by rw [HF2.out]; rfl, HW.out.2.1⟩
        · have hz0 : zeroB x = false := by simpa using h0
          clear h0
          cases hs : seenB x (keys.take j)
          · have HS : Hid (keysE (keys.take j) (keys.drop j) = keysE (keys.take (j + 1)) (keys.drop (j + 1))) := by
              show _ = _
              rw [HT.out, hz0, hs]; rfl
            have HAT : Hid ((SetD (keys.take j)).atKey (.string x.data.toList) (.lit (.bool false)) = .lit (.bool false)) := by show _ = _; rw [SetD_at, hs]
            clear hs HT
            go_wp2_with (first
              | (go_at_call 59; refine (zero1_any _ _).mono ?_; rintro r w2 ⟨rfl, rfl⟩; rw [hz0])
              | (at_lookup; refine wpList_lookup_own_bool _ rfl _ _ 68 rfl 9 4 (Go.Maps.string_keyed Try.underlying9) Try.underlying68 Try.underlying4 (Try.zeroValue4 _) (w.heap.size + 1) j _ rfl HW.out.1 _ _ rfl hkey.out false HAT.out ?_)
              | (at_mapUpdate; refine wpList_mapUpdate_own _ rfl _ _ _ 68 rfl 9 4 (Go.Maps.string_keyed Try.underlying9) Try.underlying68 _ (w.heap.size + 1) j _ rfl HW.out.1 (by unfold maxLen; omega) _ _ _ rfl rfl hkey.out _ [] (plainElem_bool Try.underlying4 true) ?_; intro w1 hown1 hgrow1; have HN := Lib.hid (And.intro hown1 hgrow1); clear hown1 hgrow1))
            go_roundw
            case rel =>
              refine ⟨j + 1, by omega, by go_num, ?_⟩
              show _ ∧ _ ∧ _
              refine ⟨?_, ?_, by rw [← HS.out]; exact HW.out.2.2⟩
              · rw [← HTK.out, SetD_snoc]; exact HN.out.1
              · exact Below.grown HW.out.2.1 HN.out.2 HW.out.2.1.size (fun q e => by injection e with e; omega)
            case measure => simp [intOf]; omega
          · have HF2 : Hid (E = 71) := by
              show _ = _
              rw [HF.out, ← HW.out.2.2, HT.out, hz0, hs]; rfl
            have HAT : Hid ((SetD (keys.take j)).atKey (.string x.data.toList) (.lit (.bool false)) = .lit (.bool true)) := by show _ = _; rw [SetD_at, hs]
            clear hs HT
            go_wp2_with (first
              | (go_at_call 59; refine (zero1_any _ _).mono ?_; rintro r w2 ⟨rfl, rfl⟩; rw [hz0])
              | (at_lookup; refine wpList_lookup_own_bool _ rfl _ _ 68 rfl 9 4 (Go.Maps.string_keyed Try.underlying9) Try.underlying68 Try.underlying4 (Try.zeroValue4 _) (w.heap.size + 1) j _ rfl HW.out.1 _ _ rfl hkey.out true HAT.out ?_))
            go_ret
            exact ⟨by rw [HF2.out]; rfl, HW.out.2.1⟩
      · have ej : j = keys.length := by omega
        subst ej
        have HF2 : Hid (E = 0) := by
          show _ = _
          rw [HF.out, ← HW.out.2.2]
          simp [keysE]
        go_wp2_with fail
        go_ret
        exact ⟨by rw [HF2.out]; rfl, HW.out.2.1⟩
  · clear hz5
    go_enter Try.func37, Try.ntmps37
    go_wp2_with fail
    go_loopw [20] (fun i wr => ∃ j : Nat, j ≤ keys.length ∧ i = .int .i64 j ∧ Hid (wr.ownsMap Try.prog 9 (plainElem Try.prog 4) (w.heap.size + 1) j (SetD (keys.take j)) ∧ Grew w wr ∧ keysE (keys.take j) (keys.drop j) = keysE [] keys)) (fun i _ => keys.length - (intOf i).toNat)
    case atStart =>
      refine ⟨0, Nat.zero_le _, rfl, ?_⟩
      show _ ∧ _ ∧ _
      exact ⟨by have := World.ownsMap_made (H := Unit) (w.alloc (.cells #[.int .i64 k, .int .i64 n, .int .u64 u, .string s, .slice a4 keys.length c4, .slice a5 vs.length c5] 26)) Try.prog 9 (plainElem Try.prog 4); rw [World.size_alloc] at this; exact this, ((Grew.refl w).alloc _).alloc _, rfl⟩
    case round =>
      obtain ⟨j, hj, rfl, HW⟩ := hrel
      by_cases hlt : j < keys.length
      · obtain ⟨x, hx⟩ : ∃ x, keys[j]? = some x := ⟨_, List.getElem?_eq_getElem hlt⟩
        have HT := Lib.hid (keysE_take hx)
        have HTK : Hid (keys.take j ++ [x] = keys.take (j + 1)) := by show _ = _; rw [List.take_add_one, hx]; rfl
        obtain ⟨lx, b, off, rfl, hcx⟩ : ∃ (lx : lenok x.size) (b off : Nat), a4 = some ⟨b, off, none⟩ ∧ wr.cell? ⟨b, off + j, none⟩ = some (.string x) := by
          obtain ⟨a, c, e, _, _, _, h⟩ := HKS.out
          injection e with e1 e2 e3
          subst e1
          obtain ⟨hx1, b, off, e, hc⟩ := h j x hx
          exact ⟨hx1, b, off, e, HW.out.2.1.cell hc⟩
        have hkey : Hid (keyOf Try.prog 9 (.string x) = some (.string x.data.toList)) := Go.WideMaps.keyOf_string_mk Try.underlying9 (by unfold lenok at lx; unfold maxLen; omega)
        clear hx lx
        have hlti : (j : Int) < keys.length := by omega
        by_cases h0 : zeroB x = true
        · have HF2 : Hid (E = 70) := by
            show _ = _
            rw [HF.out, ← HW.out.2.2, HT.out, if_pos h0]
          go_wp2_with (go_at_call 59; refine (zero1_any _ _).mono ?_; rintro r w2 ⟨rfl, rfl⟩; rw [h0])
          go_ret
          exact ⟨by rw [HF2.out]; rfl, HW.out.2.1⟩
        · have hz0 : zeroB x = false := by simpa using h0
          clear h0
          cases hs : seenB x (keys.take j)
          · have HS : Hid (keysE (keys.take j) (keys.drop j) = keysE (keys.take (j + 1)) (keys.drop (j + 1))) := by
              show _ = _
              rw [HT.out, hz0, hs]; rfl
            have HAT : Hid ((SetD (keys.take j)).atKey (.string x.data.toList) (.lit (.bool false)) = .lit (.bool false)) := by show _ = _; rw [SetD_at, hs]
            clear hs HT
            go_wp2_with (first
              | (go_at_call 59; refine (zero1_any _ _).mono ?_; rintro r w2 ⟨rfl, rfl⟩; rw [hz0])
              | (at_lookup; refine wpList_lookup_own_bool _ rfl _ _ 68 rfl 9 4 (Go.Maps.string_keyed Try.underlying9) Try.underlying68 Try.underlying4 (Try.zeroValue4 _) (w.heap.size + 1) j _ rfl HW.out.1 _ _ rfl hkey.out false HAT.out ?_)
              | (at_mapUpdate; refine wpList_mapUpdate_own _ rfl _ _ _ 68 rfl 9 4 (Go.Maps.string_keyed Try.underlying9) Try.underlying68 _ (w.heap.size + 1) j _ rfl HW.out.1 (by unfold maxLen; omega) _ _ _ rfl rfl hkey.out _ [] (plainElem_bool Try.underlying4 true) ?_; intro w1 hown1 hgrow1; have HN := Lib.hid (And.intro hown1 hgrow1); clear hown1 hgrow1))
            go_roundw
            case rel =>
              refine ⟨j + 1, by omega, by go_num, ?_⟩
              show _ ∧ _ ∧ _
              refine ⟨?_, ?_, by rw [← HS.out]; exact HW.out.2.2⟩
              · rw [← HTK.out, SetD_snoc]; exact HN.out.1
              · exact Below.grown HW.out.2.1 HN.out.2 HW.out.2.1.size (fun q e => by injection e with e; omega)
            case measure => simp [intOf]; omega
          · have HF2 : Hid (E = 71) := by
              show _ = _
              rw [HF.out, ← HW.out.2.2, HT.out, hz0, hs]; rfl
            have HAT : Hid ((SetD (keys.take j)).atKey (.string x.data.toList) (.lit (.bool false)) = .lit (.bool true)) := by show _ = _; rw [SetD_at, hs]
            clear hs HT
            go_wp2_with (first
              | (go_at_call 59; refine (zero1_any _ _).mono ?_; rintro r w2 ⟨rfl, rfl⟩; rw [hz0])
              | (at_lookup; refine wpList_lookup_own_bool _ rfl _ _ 68 rfl 9 4 (Go.Maps.string_keyed Try.underlying9) Try.underlying68 Try.underlying4 (Try.zeroValue4 _) (w.heap.size + 1) j _ rfl HW.out.1 _ _ rfl hkey.out true HAT.out ?_))
            go_ret
            exact ⟨by rw [HF2.out]; rfl, HW.out.2.1⟩
      · have ej : j = keys.length := by omega
        subst ej
        have HF2 : Hid (E = 0) := by
          show _ = _
          rw [HF.out, ← HW.out.2.2]
          simp [keysE]
        go_wp2_with fail
        go_ret
        exact ⟨by rw [HF2.out]; rfl, HW.out.2.1⟩
end Go.Proofs.Ytfbeepkogcmlmaa

/-
  Keys: the comparison that Order sorts by. Conditions: the list lies in memory, the indices are in range.
-/
namespace Go.Proofs.Ytfbeepkogcmlmaa
open Go Go.ChangeShapes Go.WideShapes Go.ChangeAt Go.RowKit Go.Joins Go.Deep
set_option linter.unusedVariables false
set_option linter.unusedSimpArgs false

set_option maxRecDepth 100000 in
set_option maxHeartbeats 1000000 in
theorem order1_any (l : List ByteArray) (lv : Value) (bx i j : Nat) (x y : ByteArray) (hx : l[i]? = some x) (hy : l[j]? = some y) (W : World) (hs : StrsAt W lv l) (hb : W.cell? ⟨bx, 0, none⟩ = some lv) :
    Calls Try.prog 70 #[.int .i64 i, .int .i64 j, .pointer (some ⟨bx, 0, none⟩)] W fun e w' => e = .returned (.int .i64 (Lib.compareBytes x.data.toList y.data.toList)) ∧ ∃ q, w' = W.drewN q := by
  have hi : i < l.length := (List.getElem?_eq_some_iff.1 hx).1
  have hj : j < l.length := (List.getElem?_eq_some_iff.1 hy).1
  obtain ⟨a, c, rfl, hlc, hc, _, hcell⟩ := hs
  obtain ⟨_, b, off, rfl, h0⟩ := hcell i x hx
  obtain ⟨_, b', off', e, h1⟩ := hcell j y hy
  cases e
  have hcmp := Try.strings_Compare x y
  have HC := Lib.hid hcmp
  unfold lenok at hc
  have hii : (i : Int) < l.length := by omega
  have hji : (j : Int) < l.length := by omega
  clear hcell hx hy hcmp
  generalize Lib.compareBytes x.data.toList y.data.toList = q at *
  go_enter Try.func70, Try.ntmps70
  go_wp2_with fail
  go_quiet ((go_at_call 71; exact Calls.quiet_of_same (HC.out _)))
  go_wp2
  go_ret
  exact ⟨rfl, _, rfl⟩
end Go.Proofs.Ytfbeepkogcmlmaa

/-
  Keys: the order of byte strings, plain; the worlds that the sort passes through.
-/
namespace Go.Proofs.Ytfbeepkogcmlmaa
open Go Go.ChangeShapes Go.WideShapes Go.ChangeAt Go.RowKit Go.Joins Go.Deep
set_option linter.unusedVariables false
set_option linter.unusedSimpArgs false

abbrev cmpB := Lib.compareBytes
theorem cmpB_self : ∀ a : List UInt8, cmpB a a = 0
  | [] => rfl
  | x :: a => by
    show (if x < x then (-1 : Int) else if x < x then 1 else cmpB a a) = 0
    rw [if_neg (UInt8.lt_irrefl x), if_neg (UInt8.lt_irrefl x), cmpB_self a]
theorem cmpB_flip : ∀ a b : List UInt8, cmpB b a = - cmpB a b
  | [], [] => rfl
  | [], _ :: _ => rfl
  | _ :: _, [] => rfl
  | x :: a, y :: b => by
    show (if y < x then (-1 : Int) else if x < y then 1 else cmpB b a) = - (if x < y then (-1 : Int) else if y < x then 1 else cmpB a b)
    by_cases h1 : x < y
    · have h2 : ¬ y < x := fun h => UInt8.lt_irrefl _ (UInt8.lt_trans h1 h)
      rw [if_neg h2, if_pos h1, if_pos h1]; rfl
    · by_cases h2 : y < x
      · rw [if_pos h2, if_neg h1, if_pos h2]
      · rw [if_neg h2, if_neg h1, if_neg h1, if_neg h2]
        exact cmpB_flip a b
theorem cmpB_zero : ∀ a b : List UInt8, cmpB a b = 0 → a = b
  | [], [], _ => rfl
  | [], _ :: _, h => by simp [cmpB, Lib.compareBytes] at h
  | _ :: _, [], h => by simp [cmpB, Lib.compareBytes] at h
  | x :: a, y :: b, h => by
    have h' : (if x < y then (-1 : Int) else if y < x then 1 else cmpB a b) = 0 := h
    by_cases h1 : x < y
    · rw [if_pos h1] at h'; omega
    · by_cases h2 : y < x
      · rw [if_neg h1, if_pos h2] at h'; omega
      · rw [if_neg h1, if_neg h2] at h'
        have hxy : x = y := by
          apply UInt8.toNat_inj.1
          have q1 : ¬ x.toNat < y.toNat := fun h => h1 (UInt8.lt_iff_toNat_lt.2 h)
          have q2 : ¬ y.toNat < x.toNat := fun h => h2 (UInt8.lt_iff_toNat_lt.2 h)
          omega
        rw [hxy, cmpB_zero a b h']
theorem cmpB_trans : ∀ a b c : List UInt8, cmpB a b < 0 → cmpB b c < 0 → cmpB a c < 0
  | [], [], _, h, _ => by simp [cmpB, Lib.compareBytes] at h
  | [], _ :: _, [], _, h => by simp [cmpB, Lib.compareBytes] at h
  | [], _ :: _, _ :: _, _, _ => by simp [cmpB, Lib.compareBytes]
  | _ :: _, [], _, h, _ => by simp [cmpB, Lib.compareBytes] at h
  | _ :: _, _ :: _, [], _, h => by simp [cmpB, Lib.compareBytes] at h
  | x :: a, y :: b, z :: c, h, g => by
    have h' : (if x < y then (-1 : Int) else if y < x then 1 else cmpB a b) < 0 := h
    have g' : (if y < z then (-1 : Int) else if z < y then 1 else cmpB b c) < 0 := g
    show (if x < z then (-1 : Int) else if z < x then 1 else cmpB a c) < 0
    simp only [UInt8.lt_iff_toNat_lt] at *
    by_cases h1 : x.toNat < y.toNat
    · by_cases g1 : y.toNat < z.toNat
      · rw [if_pos (by omega)]; omega
      · by_cases g2 : z.toNat < y.toNat
        · rw [if_neg g1, if_pos g2] at g'; omega
        · rw [if_pos (by omega)]; omega
    · by_cases h2 : y.toNat < x.toNat
      · rw [if_neg h1, if_pos h2] at h'; omega
      · rw [if_neg h1, if_neg h2] at h'
        by_cases g1 : y.toNat < z.toNat
        · rw [if_pos (by omega)]; omega
        · by_cases g2 : z.toNat < y.toNat
          · rw [if_neg g1, if_pos g2] at g'; omega
          · rw [if_neg g1, if_neg g2] at g'
            rw [if_neg (by omega), if_neg (by omega)]
            exact cmpB_trans a b c h' g'
/-- a precedes b bytewise. -/
def ltS (a b : ByteArray) : Bool := decide (cmpB a.data.toList b.data.toList < 0)
theorem ltS_irrefl (a : ByteArray) : ltS a a = false := by simp [ltS, cmpB_self]
theorem ltS_trans {a b c : ByteArray} (h : ltS a b = true) (g : ltS b c = true) : ltS a c = true := by
  simp only [ltS, decide_eq_true_eq] at *
  exact cmpB_trans _ _ _ h g
theorem ltS_total {a b : ByteArray} (h : ltS a b = false) (g : ltS b a = false) : a = b := by
  simp only [ltS, decide_eq_false_iff_not] at *
  have hf := cmpB_flip a.data.toList b.data.toList
  exact bytes_inj (cmpB_zero _ _ (by omega))
theorem ltS_ntrans {a b c : ByteArray} (h : ltS a b = false) (g : ltS b c = false) : ltS a c = false := by
  cases hc : ltS a c with
  | false => rfl
  | true =>
    exfalso
    cases hb : ltS b a with
    | true => have := ltS_trans hb hc; rw [g] at this; cases this
    | false =>
      have e := ltS_total h hb
      subst e
      rw [g] at hc; cases hc
theorem moved_sort {α : Type} [Inhabited α] (enc : α → Value) (w : World) (blk off m : Nat) (dk : Array α) (os : Array Obj) : Moved (fun k => k = blk) w (sortWorld enc w blk off m dk os) := by
  refine ⟨rfl, rfl, rfl, ?_, fun k hk hne => ?_⟩
  · simp [sortWorld, Go.Sort.grow, Go.Sort.putRow, Go.Sort.mapBlock, Go.Sort.ahead]
  · simp only [sortWorld, Go.Sort.grow, Go.Sort.putRow, Go.Sort.mapBlock, Go.Sort.ahead]
    rw [Array.getElem?_append_left (by simpa using hk), Array.getElem?_modify, if_neg (fun e => hne e.symm)]
end Go.Proofs.Ytfbeepkogcmlmaa

/-
  Keys: the library's sort at Order's comparison. Conditions: the list and the row of indices lie in memory, in different blocks.
-/
namespace Go.Proofs.Ytfbeepkogcmlmaa
open Go Go.ChangeShapes Go.WideShapes Go.ChangeAt Go.RowKit Go.Joins Go.Deep
set_option linter.unusedVariables false
set_option linter.unusedSimpArgs false

theorem extract_whole {α : Type} (a : Array α) (n : Nat) (h : a.size = n) : a.extract 0 n = a := by subst h; simp
/-- An index as its cell. -/
def encF {n : Nat} (x : Fin n) : Value := .int .i64 ((x.1 : Nat) : Int)
/-- The comparison of two indices. -/
def cfF (l : List ByteArray) (x y : Fin l.length) : Int := cmpB l[x].data.toList l[y].data.toList
theorem swo_cfF (l : List ByteArray) : Go.Sort.SWO (ltOf (cfF l)) where
  irrefl x := ltS_irrefl l[x]
  trans x y z h g := ltS_trans (a := l[x]) (b := l[y]) (c := l[z]) h g
  ntrans x y z h g := ltS_ntrans (a := l[x]) (b := l[y]) (c := l[z]) h g
theorem StrsAt.moved {S : Nat → Prop} {w w' : World} {v : Value} {ks : List ByteArray} (h : StrsAt w v ks) (hm : Moved S w w') (hS : ∀ a n c, v = .slice (some a) n c → ¬ S a.block) : StrsAt w' v ks := by
  obtain ⟨a, c, rfl, h2, h3, h4, h5⟩ := h
  refine ⟨a, c, rfl, h2, h3, h4, fun i s hs => ?_⟩
  obtain ⟨hz, b, off, e, hc⟩ := h5 i s hs
  subst e
  exact ⟨hz, b, off, rfl, hm.cell (p := ⟨b, off + i, none⟩) hc (hS ⟨b, off, none⟩ _ _ rfl)⟩
set_option maxRecDepth 100000 in
theorem sortfunc_any (l : List ByteArray) (h0 : 0 < l.length) (hl : l.length ≤ 1099511627776) (lv : Value) (bx blk : Nat) (w : World) (hs : StrsAt w lv l) (hb : w.cell? ⟨bx, 0, none⟩ = some lv) (hbx : bx ≠ blk) (hlv : ∀ a n c, lv = .slice (some a) n c → a.block ≠ blk)
    (hrow : ∀ j, j < l.length → w.cell? ⟨blk, j, none⟩ = some (.int .i64 (j : Int)) ∧ w.frozen? ⟨blk, j, none⟩ = false) (hblk : blk < w.heap.size) (cap : Nat) :
    Calls Try.prog 69 #[.slice (some ⟨blk, 0, none⟩) l.length cap, .func (.func 70) #[] #[.pointer (some ⟨bx, 0, none⟩)]] w fun r w' =>
      r = .returned (.tuple #[]) ∧ ∃ p : List (Fin l.length), p.Perm (List.finRange l.length) ∧ (∀ (i j : Nat) x y, i < j → p[i]? = some x → p[j]? = some y → ltS l[y] l[x] = false) ∧ (∀ (i : Nat) (x : Fin l.length), p[i]? = some x → w'.cell? ⟨blk, i, none⟩ = some (.int .i64 ((x.1 : Nat) : Int))) ∧ Moved (fun k => k = blk) w w' := by
  have : Inhabited (Fin l.length) := ⟨⟨0, h0⟩⟩
  have eg : ∀ args w, (callFunc 70 args).run Try.prog w = .ok (.enter 70 args) w := enters_of Try.func70 (by kernel_rfl) rfl
  have hd : ((List.finRange l.length).toArray).size = l.length := by simp
  have hcmp : CmpLays1 Try.prog 70 #[.pointer (some ⟨bx, 0, none⟩)] encF (cfF l) blk 0 ((List.finRange l.length).toArray).size w := by
    refine CmpReads.lays fun m os dk hk x y => ?_
    have hm := moved_sort (encF (n := l.length)) w blk 0 m dk os
    exact order1_any l lv bx x.1 y.1 l[x] l[y] (List.getElem?_eq_getElem x.2) (List.getElem?_eq_getElem y.2) _ (hs.moved hm (fun a n c e => hlv a n c e)) (hm.cell hb hbx)
  have hH : Go.Sort.Holds (encF (n := l.length)) w blk 0 (List.finRange l.length).toArray := by
    intro j hj
    rw [hd] at hj
    rw [getElem!_pos _ j (by simpa using hj), Nat.zero_add]
    simpa [encF] using hrow j hj
  have hcon := Try.slices_SortFunc (encF (n := l.length)) (fun _ => rfl) (cfF l) (swo_cfF l) 70 #[.pointer (some ⟨bx, 0, none⟩)] blk 0 cap (List.finRange l.length).toArray w eg hcmp hH hblk (by rw [hd]; omega)
  rw [hd] at hcon
  refine hcon.mono ?_
  rintro r w' ⟨rfl, d', n, os, hp, hsd, rfl⟩
  obtain ⟨hsz, _, hperm⟩ := hp
  have hdn : d'.size = l.length := hsz.trans hd
  refine ⟨rfl, d'.toList, ?_, fun i j x y hij hx hy => ?_, fun i x hx => ?_, moved_sort _ w blk 0 n d' os⟩
  · have e1 : d'.extract 0 l.length = d' := extract_whole _ _ hdn
    have e2 : (List.finRange l.length).toArray.extract 0 l.length = (List.finRange l.length).toArray := extract_whole _ _ hd
    rw [e1, e2] at hperm
    simpa using hperm
  · have hj := (List.getElem?_eq_some_iff.1 hy).1
    have hi := (List.getElem?_eq_some_iff.1 hx).1
    have h := hsd i j (Nat.zero_le _) hij (by simpa [hdn] using hj)
    rw [getElem!_pos d' j (by simpa using hj), getElem!_pos d' i (by simpa using hi)] at h
    have ex : d'[i]'(by simpa using hi) = x := by have := (List.getElem?_eq_some_iff.1 hx).2; simpa using this
    have ey : d'[j]'(by simpa using hj) = y := by have := (List.getElem?_eq_some_iff.1 hy).2; simpa using this
    rw [ex, ey] at h
    exact h
  · have hi := (List.getElem?_eq_some_iff.1 hx).1
    have h := (Go.Proofs.holds_sortWorld (encF (n := l.length)) w blk 0 n _ d' os hblk hH hsz i (by simpa using hi)).1
    rw [getElem!_pos d' i (by simpa using hi)] at h
    have ex : d'[i]'(by simpa using hi) = x := by have := (List.getElem?_eq_some_iff.1 hx).2; simpa using this
    rw [ex, Nat.zero_add] at h
    exact h
end Go.Proofs.Ytfbeepkogcmlmaa

/-
  Keys: Order. Conditions: the list lies in memory, at most 4096 keys.
-/
namespace Go.Proofs.Ytfbeepkogcmlmaa
open Go Go.ChangeShapes Go.WideShapes Go.ChangeAt Go.RowKit Go.Joins Go.Deep
set_option linter.unusedVariables false
set_option linter.unusedSimpArgs false

theorem Try.infoIntK : (Try.prog.info? 3).map (fun i => (i.zero, i.size, i.bytes)) = some (some (.int .i64 0), 1, 8) := by kernel_rfl
/-- The row of indices when k have been laid. -/
def upF (k j : Nat) : Value := if j < k then .int .i64 (j : Int) else .int .i64 0
/-- v holds the places of l's keys in increasing order. -/
def PlacesAt (w : World) (v : Value) (l : List ByteArray) : Prop :=
  ∃ (blk cap : Nat) (p : List (Fin l.length)), v = .slice (some ⟨blk, 0, none⟩) l.length cap ∧ p.Perm (List.finRange l.length) ∧ (∀ (i j : Nat) x y, i < j → p[i]? = some x → p[j]? = some y → ltS l[x] l[y] = true) ∧ (∀ (i : Nat) (x : Fin l.length), p[i]? = some x → w.cell? ⟨blk, i, none⟩ = some (.int .i64 ((x.1 : Nat) : Int))) ∧ cap = l.length
/-- What Order hands back. -/
def OrderOut (w : World) (l : List ByteArray) (r : Ending) (w' : World) : Prop :=
  Grew w w' ∧ ((¬ l.Nodup ∧ r = .returned (.tuple #[.slice none 0 0, .int .i64 71])) ∨ (l.Nodup ∧ ∃ v, r = .returned (.tuple #[v, .int .i64 0]) ∧ PlacesAt w' v l))
theorem perm_len {l : List ByteArray} {p : List (Fin l.length)} (h : p.Perm (List.finRange l.length)) : p.length = l.length := by rw [h.length_eq]; simp
theorem adj_nodup {l : List ByteArray} {p : List (Fin l.length)} (hp : p.Perm (List.finRange l.length)) {i : Nat} {x y : Fin l.length} (hx : p[i]? = some x) (hy : p[i + 1]? = some y) (e : l[x] = l[y]) : ¬ l.Nodup := by
  intro hn
  have hpn : p.Nodup := hp.nodup_iff.2 (List.nodup_finRange _)
  have hxy : x = y := by
    apply Fin.ext
    exact (List.getElem_inj hn).1 e
  have h1 := (List.getElem?_eq_some_iff.1 hx)
  have h2 := (List.getElem?_eq_some_iff.1 hy)
  obtain ⟨h1l, h1e⟩ := h1
  obtain ⟨h2l, h2e⟩ := h2
  have := (List.getElem_inj hpn (h₀ := h1l) (h₁ := h2l)).1 (by rw [h1e, h2e, hxy])
  omega
theorem adj_strict {l : List ByteArray} {p : List (Fin l.length)} (hs : ∀ (i j : Nat) x y, i < j → p[i]? = some x → p[j]? = some y → ltS l[y] l[x] = false) (ha : ∀ (i : Nat) x y, p[i]? = some x → p[i + 1]? = some y → ¬ l[x] = l[y]) :
    ∀ (i j : Nat) x y, i < j → p[i]? = some x → p[j]? = some y → ltS l[x] l[y] = true := by
  intro i j x y hij hx hy
  have step : ∀ (i : Nat) x y, p[i]? = some x → p[i + 1]? = some y → ltS l[x] l[y] = true := by
    intro i x y hx hy
    cases h : ltS l[x] l[y] with
    | true => rfl
    | false => exact absurd (ltS_total h (hs i (i + 1) x y (by omega) hx hy)) (ha i x y hx hy)
  induction j generalizing y with
  | zero => omega
  | succ j ih =>
    by_cases e : i = j
    · subst e; exact step i x y hx hy
    · have hj : j < p.length := by have := (List.getElem?_eq_some_iff.1 hy).1; omega
      exact ltS_trans (ih p[j] (by omega) (List.getElem?_eq_getElem hj) step) (step j p[j] y (List.getElem?_eq_getElem hj) hy)
theorem strict_nodup {l : List ByteArray} {p : List (Fin l.length)} (hp : p.Perm (List.finRange l.length)) (hs : ∀ (i j : Nat) x y, i < j → p[i]? = some x → p[j]? = some y → ltS l[x] l[y] = true) : l.Nodup := by
  refine List.pairwise_iff_getElem.2 fun i j hi hj hij he => ?_
  have mi : (⟨i, hi⟩ : Fin l.length) ∈ p := hp.mem_iff.2 (List.mem_finRange _)
  have mj : (⟨j, hj⟩ : Fin l.length) ∈ p := hp.mem_iff.2 (List.mem_finRange _)
  obtain ⟨a, ha, hae⟩ := List.mem_iff_getElem.1 mi
  obtain ⟨b, hb, hbe⟩ := List.mem_iff_getElem.1 mj
  have hab : a ≠ b := fun h => by subst h; rw [hae] at hbe; injection hbe with h; omega
  rcases Nat.lt_or_gt_of_ne hab with h | h
  · have := hs a b _ _ h (by rw [List.getElem?_eq_getElem ha, hae]) (by rw [List.getElem?_eq_getElem hb, hbe])
    have e2 : ltS l[i] l[j] = true := this
    rw [he, ltS_irrefl] at e2; cases e2
  · have := hs b a _ _ h (by rw [List.getElem?_eq_getElem hb, hbe]) (by rw [List.getElem?_eq_getElem ha, hae])
    have e2 : ltS l[j] l[i] = true := this
    rw [he, ltS_irrefl] at e2; cases e2
set_option maxRecDepth 100000 in
set_option maxHeartbeats 2000000 in
theorem order_any (l : List ByteArray) (hl : l.length ≤ 4096) (lv : Value) (w : World) (hs : StrsAt w lv l) :
    Calls Try.prog 61 #[lv] w fun r w' => OrderOut w l r w' := by
  have HS := Lib.hid hs
  obtain ⟨a, c, rfl, hz1, hz2, hz3, hz4⟩ := hs
  clear hz1 hz2 hz3 hz4
  have hmk := run_make_row' (P := Try.prog) 69 3 (.int .i64 0) 8 Try.underlying69 Try.infoIntK rfl .i64 .i64 l.length (by omega) (by omega)
  go_enter Try.func61, Try.ntmps61
  go_wp2_with fail
  have hbx := heap_alloc_new w (.cells #[.slice a l.length c] 23)
  have hg1 := (Grew.refl w).alloc (.cells #[.slice a l.length c] 23)
  have hs1 : (w.alloc (.cells #[.slice a l.length c] 23)).heap.size = w.heap.size + 1 := World.size_alloc _ _
  generalize (w.alloc (.cells #[.slice a l.length c] 23)) = w1 at *
  have hrow := World.rowIs_made w1 (.int .i64 0) l.length 3
  have hg2 := (Grew.refl w1).alloc (.cells (madeCells #[.int .i64 0] l.length) 3)
  rw [hs1] at hrow
  generalize (w1.alloc (.cells (madeCells #[.int .i64 0] l.length) 3)) = w2 at *
  obtain ⟨N, hN⟩ : ∃ N, w.heap.size = N := ⟨_, rfl⟩
  rw [hN] at hbx hrow ⊢
  have HBX := Lib.hid (hg2.heap hbx)
  have HG := Lib.hid (hg1.trans hg2)
  have HN := Lib.hid hN
  have HROW := Lib.hid hrow
  clear hmk hbx hg1 hg2 hs1 hrow hN
  go_loopw [12] (fun i wr => ∃ k : Nat, k ≤ l.length ∧ i = .int .i64 k ∧ Hid (wr.rowIs (N + 1) 3 l.length (upF k) ∧ Moved (fun g => g = N + 1) w2 wr)) (fun i _ => l.length - (intOf i).toNat)
  case atStart => exact ⟨0, Nat.zero_le _, rfl, by show _ ∧ _; exact ⟨HROW.out.congr (fun i _ => by simp [upF]), Moved.refl _ _⟩⟩
  case round =>
    obtain ⟨k, hk, rfl, HW⟩ := hrel
    by_cases hlt : k < l.length
    · have hc := HW.out.1.cell hlt
      have hf := HW.out.1.frozen k
      obtain ⟨u, hu⟩ : ∃ u, upF k k = .int .i64 u := ⟨0, by simp [upF]⟩
      rw [hu] at hc
      have hlti : (k : Int) < l.length := by omega
      go_wp2_with fail
      go_roundw
      case rel => exact ⟨k + 1, by omega, by go_num, by
        show _ ∧ _
        refine ⟨(HW.out.1.set k _).congr (fun i hi => ?_), HW.out.2.setCell (p := ⟨N + 1, k, none⟩) (fun _ => rfl) _⟩
        by_cases e : i = k
        · subst e; simp [upF]
        · simp only [upF, if_neg e]
          by_cases h : i < k
          · rw [if_pos h, if_pos (by omega)]
          · rw [if_neg h, if_neg (by omega)]⟩
      case measure => simp [intOf]; omega
    · obtain rfl : k = l.length := by omega
      have hm2 := HW.out.2
      have hgw : Grew w wr := Moved.fresh HG.out hm2 (fun g h => by have := HN.out; omega)
      have HGW := Lib.hid hgw
      have hbx : wr.heap[N]? = some (.cells #[.slice a l.length c] 23 (0, 0)) := hm2.heap HBX.out (by omega)
      have HBW := Lib.hid hbx
      have hsw : Hid (StrsAt wr (.slice a l.length c) l) := HS.out.grew hgw
      have hblk : Hid (N + 1 < wr.heap.size) := HW.out.1.lt
      have hlvb : Hid (∀ ad n c', Value.slice a l.length c = .slice (some ad) n c' → 0 < l.length → ad.block ≠ N + 1) := fun ad n c' e h0 => by
        injection e with e1 e2 e3
        obtain ⟨a', c'', e', _, _, _, h⟩ := HS.out
        injection e' with e1' _ _
        obtain ⟨_, b, off, e4, hc⟩ := h 0 l[0] (List.getElem?_eq_getElem h0)
        have hb := World.block_lt_of_cell? w _ hc
        have hN' := HN.out
        rw [← e1', e1] at e4
        injection e4 with e4
        subst e4
        simp only at hb ⊢
        omega
      have HROW2 : Hid (∀ j, j < l.length → wr.cell? ⟨N + 1, j, none⟩ = some (.int .i64 (j : Int)) ∧ wr.frozen? ⟨N + 1, j, none⟩ = false) := fun j hj => ⟨by rw [HW.out.1.cell hj]; simp [upF, hj], HW.out.1.frozen j⟩
      clear hm2 hgw hbx HW
      by_cases h0 : 0 < l.length
      · have HCALL : Hid (Calls Try.prog 69 #[.slice (some ⟨N + 1, 0, none⟩) l.length l.length, .func (.func 70) #[] #[.pointer (some ⟨N, 0, none⟩)]] wr _) := sortfunc_any l h0 (by omega) _ N (N + 1) wr hsw.out (row_cellT HBW.out 0 _ rfl) (by omega) (fun ad n c' e => hlvb.out ad n c' e h0) HROW2.out hblk.out l.length
        go_wp2_with fail
        refine HCALL.out.mono ?_
        rintro r w4 ⟨rfl, p, hp, hsd, hcl, hm4⟩
        have HP := Lib.hid hp
        have HSD := Lib.hid hsd
        have HCL := Lib.hid hcl
        have HG4 : Hid (Grew w w4) := Moved.fresh HGW.out hm4 (fun g h => by have := HN.out; omega)
        have HB4 := Lib.hid (hm4.heap HBW.out (by omega))
        have HPL : Hid (p.length = l.length) := perm_len hp
        clear hp hsd hcl hm4 HCALL hlvb HROW2 hsw
        go_wp2_with fail
        go_loopw [6] (fun i wr' => ∃ q : Nat, q < l.length ∧ i = .int .i64 ((q : Int) + 1) ∧ Hid ((∀ (i : Nat) x y, i + 1 < q + 1 → p[i]? = some x → p[i + 1]? = some y → ¬ l[x] = l[y]) ∧ Grew w4 wr')) (fun i _ => l.length - (intOf i).toNat)
        case atStart => exact ⟨0, h0, rfl, by show _ ∧ _; exact ⟨fun i x y h => by omega, Grew.refl _⟩⟩
        case round =>
          obtain ⟨q, hq, rfl, HW⟩ := hrel
          by_cases hlt : q + 1 < l.length
          · obtain ⟨x, hx⟩ : ∃ x, p[q]? = some x := ⟨_, List.getElem?_eq_getElem (by have := HPL.out; omega)⟩
            obtain ⟨y, hy⟩ : ∃ y, p[q + 1]? = some y := ⟨_, List.getElem?_eq_getElem (by have := HPL.out; omega)⟩
            have c1 := HW.out.2.cell (HCL.out q x hx)
            have c2 := HW.out.2.cell (HCL.out (q + 1) y hy)
            have bc := row_cellT (HW.out.2.heap HB4.out) 0 _ rfl
            obtain ⟨xi, hxl⟩ := x
            obtain ⟨yi, hyl⟩ := y
            obtain ⟨b, off, rfl, s1⟩ : ∃ b off, a = some ⟨b, off, none⟩ ∧ wr.cell? ⟨b, off + xi, none⟩ = some (.string l[xi]) := by
              obtain ⟨a', c', e', _, _, _, h⟩ := HS.out
              injection e' with e1 _ _
              obtain ⟨_, b, off, e4, hc⟩ := h xi l[xi] (List.getElem?_eq_getElem hxl)
              exact ⟨b, off, by rw [e1, e4], (HG4.out.trans HW.out.2).cell hc⟩
            have s2 : wr.cell? ⟨b, off + yi, none⟩ = some (.string l[yi]) := by
              obtain ⟨a', c', e', _, _, _, h⟩ := HS.out
              injection e' with e1 _ _
              obtain ⟨_, b', off', e4, hc⟩ := h yi l[yi] (List.getElem?_eq_getElem hyl)
              rw [← e1] at e4
              injection e4 with e4
              cases e4
              exact (HG4.out.trans HW.out.2).cell hc
            have HXY := Lib.hid (And.intro hx hy)
            obtain ⟨sx, hsx⟩ : ∃ s, l[xi] = s := ⟨_, rfl⟩
            obtain ⟨sy, hsy⟩ : ∃ s, l[yi] = s := ⟨_, rfl⟩
            rw [hsx] at s1
            rw [hsy] at s2
            have HSX := Lib.hid (And.intro hsx hsy)
            have hxi : (xi : Int) < l.length := by omega
            have hyi : (yi : Int) < l.length := by omega
            have hqi : (q : Int) + 1 < l.length := by omega
            have hqi2 : (q : Int) < l.length := by omega
            have hw1 : IntKind.i64.wrap ((q : Int) + 1 - 1) = q := by rw [IntKind.wrap_i64]; omega
            clear hx hy hsx hsy
            by_cases hxy : sx = sy
            · have hne : Hid (¬ l.Nodup) := adj_nodup HP.out HXY.out.1 HXY.out.2 (by show l[xi] = l[yi]; rw [HSX.out.1, HSX.out.2, hxy])
              have hbe : (sx.toList == sy.toList) = true := by rw [str_eq]; exact decide_eq_true hxy
              clear hxy
              go_wp2_with fail
              go_quiet (fail)
              go_wp2_with fail
              go_ret2
              exact ⟨(HG4.out.trans HW.out.2).drewN _, .inl ⟨hne.out, rfl⟩⟩
            · have hbe : (sx.toList == sy.toList) = false := by rw [str_eq]; exact decide_eq_false hxy
              have HNE := Lib.hid hxy
              clear hxy
              go_wp2_with fail
              go_quiet (fail)
              go_wp2_with fail
              go_roundw
              case rel => exact ⟨q + 1, by omega, by go_num, by
                show _ ∧ _
                refine ⟨fun i x y hi hx hy => ?_, HW.out.2.drewN _⟩
                by_cases e : i = q
                · subst e
                  rw [HXY.out.1] at hx
                  rw [HXY.out.2] at hy
                  injection hx with hx
                  injection hy with hy
                  subst hx hy
                  show ¬ l[xi] = l[yi]
                  rw [HSX.out.1, HSX.out.2]
                  exact HNE.out
                · exact HW.out.1 i x y (by omega) hx hy⟩
              case measure => simp [intOf]; omega
          · have hge : ¬ (q : Int) + 1 < l.length := by omega
            have hst : Hid (∀ (i j : Nat) x y, i < j → p[i]? = some x → p[j]? = some y → ltS l[x] l[y] = true) := adj_strict HSD.out (fun i x y hx hy => HW.out.1 i x y (by have := (List.getElem?_eq_some_iff.1 hy).1; have := HPL.out; omega) hx hy)
            go_wp2_with fail
            go_ret2
            exact ⟨HG4.out.trans HW.out.2, .inr ⟨strict_nodup HP.out hst.out, _, rfl, N + 1, l.length, p, rfl, HP.out, hst.out, fun i x hx => HW.out.2.cell (HCL.out i x hx), rfl⟩⟩
      · obtain rfl : l = [] := List.length_eq_zero_iff.1 (by omega)
        go_wp2_with fail
        refine (Try.slices_SortFunc_none (α := Nat) _ _ _ _).mono ?_
        rintro r w4 ⟨rfl, rfl⟩
        go_wp2_with fail
        go_loopw [6] (fun i wr' => i = .int .i64 1 ∧ Hid (Grew w wr')) (fun _ _ => 0)
        case atStart => exact ⟨rfl, HGW.out⟩
        case round =>
        obtain ⟨rfl, HW⟩ := hrel
        go_wp2_with fail
        go_ret2
        exact ⟨HW.out, .inr ⟨by simp, _, rfl, N + 1, 0, [], rfl, by simp, by simp, by simp, rfl⟩⟩
end Go.Proofs.Ytfbeepkogcmlmaa

/-
  Keys: Check, Less. Conditions: none.
-/
namespace Go.Proofs.Ytfbeepkogcmlmaa
open Go Go.ChangeShapes Go.WideShapes Go.ChangeAt Go.RowKit Go.Joins Go.Deep
set_option linter.unusedVariables false
set_option linter.unusedSimpArgs false

/-- Whether a key holds the byte 00, as an error. -/
def keyE (s : ByteArray) : Int := if 0 ≤ Lib.indexByte s.data.toList 0 then 70 else 0
theorem bytesLess_eq : ∀ a b : List UInt8, Op.bytesLess a b = decide (cmpB a b < 0)
  | [], [] => by simp [Op.bytesLess, cmpB, Lib.compareBytes]
  | [], _ :: _ => by simp [Op.bytesLess, cmpB, Lib.compareBytes]
  | _ :: _, [] => by simp [Op.bytesLess, cmpB, Lib.compareBytes]
  | x :: a, y :: b => by
    have ih := bytesLess_eq a b
    have hc : cmpB (x :: a) (y :: b) = if x < y then (-1 : Int) else if y < x then 1 else cmpB a b := rfl
    rw [hc]
    unfold Op.bytesLess
    by_cases h1 : x < y
    · simp [h1]
    · by_cases h2 : y < x
      · have h3 : ¬ x = y := fun e => by subst e; exact UInt8.lt_irrefl _ h2
        simp [h1, h2, h3]
      · have h3 : x = y := by
          apply UInt8.toNat_inj.1
          have q1 : ¬ x.toNat < y.toNat := fun h => h1 (UInt8.lt_iff_toNat_lt.2 h)
          have q2 : ¬ y.toNat < x.toNat := fun h => h2 (UInt8.lt_iff_toNat_lt.2 h)
          omega
        simp [h1, h2, h3, ih]
theorem less_eq (a b : ByteArray) : Op.bytesLess a.toList b.toList = ltS a b := by
  rw [ByteArray.toList_eq, ByteArray.toList_eq, bytesLess_eq]; rfl
end Go.Proofs.Ytfbeepkogcmlmaa

/-
  Keys: Find. Conditions: the list lies in memory.
-/
namespace Go.Proofs.Ytfbeepkogcmlmaa
open Go Go.ChangeShapes Go.WideShapes Go.ChangeAt Go.RowKit Go.Joins Go.Deep
set_option linter.unusedVariables false
set_option linter.unusedSimpArgs false

/-- Binary search. -/
def halves (l : List ByteArray) (k : ByteArray) (lo hi : Nat) : Nat :=
  if lo < hi then
    if ltS (l.getD (lo + (hi - lo) / 2) ByteArray.empty) k then halves l k (lo + (hi - lo) / 2 + 1) hi else halves l k lo (lo + (hi - lo) / 2)
  else lo
termination_by hi - lo
decreasing_by all_goals omega
/-- What Find answers. -/
def findK (l : List ByteArray) (k : ByteArray) : Int × Bool := if l[halves l k 0 l.length]? = some k then ((halves l k 0 l.length : Nat), true) else (0, false)
end Go.Proofs.Ytfbeepkogcmlmaa

/-
  Keys: the reference's Less. Conditions: none beyond the lengths.
-/
namespace Go.Proofs.Ytfbeepkogcmlmaa
open Go Go.ChangeShapes Go.WideShapes Go.ChangeAt Go.RowKit Go.Joins Go.Deep
set_option linter.unusedVariables false
set_option linter.unusedSimpArgs false

/-- Where two lists first differ. -/
theorem cmpB_take (a b : List UInt8) (k : Nat) (h : a.take k = b.take k) : cmpB a b = cmpB (a.drop k) (b.drop k) := by
  induction k generalizing a b with
  | zero => simp
  | succ k ih =>
    cases a with
    | nil => cases b with
      | nil => simp
      | cons y b => simp at h
    | cons x a => cases b with
      | nil => simp at h
      | cons y b =>
        simp at h
        obtain ⟨rfl, h⟩ := h
        show (if x < x then (-1 : Int) else if x < x then 1 else cmpB a b) = cmpB (a.drop k) (b.drop k)
        rw [if_neg (UInt8.lt_irrefl x), if_neg (UInt8.lt_irrefl x), ih a b h]
theorem ba_get (a : ByteArray) (k : Nat) (h : k < a.size) : a.data.toList[k]? = some a[k] := by
  rw [List.getElem?_eq_getElem (by simpa using h)]; rfl
theorem ba_len (a : ByteArray) : a.data.toList.length = a.size := by simp
theorem ltS_at (a b : ByteArray) (k : Nat) (h1 : k < a.size) (h2 : k < b.size) (ht : a.data.toList.take k = b.data.toList.take k) (hne : ¬ a[k] = b[k]) : ltS a b = decide ((a[k].toNat : Int) < (b[k].toNat : Int)) := by
  unfold ltS
  rw [cmpB_take _ _ k ht]
  obtain ⟨hl1, e1⟩ := List.getElem?_eq_some_iff.1 (ba_get a k h1)
  obtain ⟨hl2, e2⟩ := List.getElem?_eq_some_iff.1 (ba_get b k h2)
  rw [List.drop_eq_getElem_cons hl1, List.drop_eq_getElem_cons hl2, e1, e2]
  show decide ((if a[k] < b[k] then (-1 : Int) else if b[k] < a[k] then 1 else _) < 0) = _
  have hnn : ¬ a[k].toNat = b[k].toNat := fun e => hne (UInt8.toNat_inj.1 e)
  by_cases h : a[k] < b[k]
  · have := UInt8.lt_iff_toNat_lt.1 h
    rw [if_pos h, decide_eq_true (by omega), decide_eq_true (by omega)]
  · have h' : ¬ a[k].toNat < b[k].toNat := fun e => h (UInt8.lt_iff_toNat_lt.2 e)
    rw [if_neg h, if_pos (UInt8.lt_iff_toNat_lt.2 (by omega)), decide_eq_false (by omega), decide_eq_false (by omega)]
theorem ltS_end (a b : ByteArray) (k : Nat) (h1 : k ≤ a.size) (h2 : k ≤ b.size) (ht : a.data.toList.take k = b.data.toList.take k) (hk : k = a.size ∨ k = b.size) : ltS a b = decide ((a.size : Int) < (b.size : Int)) := by
  unfold ltS
  rw [cmpB_take _ _ k ht]
  by_cases ha : k = a.size
  · rw [List.drop_eq_nil_iff.2 (by rw [ba_len]; omega)]
    cases hd : b.data.toList.drop k with
    | nil =>
      have := List.drop_eq_nil_iff.1 hd
      rw [ba_len] at this
      rw [decide_eq_false (by simp [cmpB, Lib.compareBytes]), decide_eq_false (by omega)]
    | cons y r =>
      have hlt : k < b.size := by
        have h3 := congrArg List.length hd
        rw [List.length_drop, ba_len] at h3
        simp at h3; omega
      rw [decide_eq_true (by simp [cmpB, Lib.compareBytes]), decide_eq_true (by omega)]
  · have hkb : k = b.size := by omega
    rw [List.drop_eq_nil_iff.2 (show b.data.toList.length ≤ k by rw [ba_len]; omega)]
    have : ¬ cmpB (a.data.toList.drop k) [] < 0 := by cases a.data.toList.drop k <;> simp [cmpB, Lib.compareBytes]
    rw [decide_eq_false this, decide_eq_false (by omega)]
theorem drewN_more {w wr : World} {n : Nat} (h : ∃ q, wr = w.drewN q) : ∃ q, wr.drewN n = w.drewN q := by
  obtain ⟨q, rfl⟩ := h
  exact ⟨q + n, by simp [World.drewN, Nat.add_assoc]⟩
set_option maxRecDepth 100000 in
set_option maxHeartbeats 1000000 in
theorem rless_any (a b : ByteArray) (w : World) (ha : lenok a.size) (hb : lenok b.size) : Calls Try.prog 74 #[.string a, .string b] w fun r w' => r = .returned (.bool (ltS a b)) ∧ ∃ q, w' = w.drewN q := by
  unfold lenok at ha hb
  go_enter Try.func74, Try.ntmps74
  go_wp2_with fail
  go_loopw [5] (fun i wr => ∃ k : Nat, k ≤ a.size ∧ k ≤ b.size ∧ i = .int .i64 k ∧ Hid (a.data.toList.take k = b.data.toList.take k ∧ ∃ q, wr = w.drewN q)) (fun i _ => a.size - (intOf i).toNat)
  case atStart => exact ⟨0, by omega, by omega, rfl, by show _ ∧ _; exact ⟨by simp, 0, rfl⟩⟩
  case round =>
    obtain ⟨k, hka, hkb, rfl, HW⟩ := hrel
    by_cases h1 : k < a.size
    · by_cases h2 : k < b.size
      · have h1i : (k : Int) < a.size := by omega
        have h2i : (k : Int) < b.size := by omega
        by_cases hxy : a[k] = b[k]
        · have HXY := Lib.hid hxy
          have hq : ((a[k].toNat : Int) != (b[k].toNat : Int)) = false := by rw [hxy]; simp
          clear hxy
          go_wp2_with fail
          go_quiet (fail)
          go_wp2_with fail
          go_roundw
          case rel => exact ⟨k + 1, by omega, by omega, by go_num, by
            show _ ∧ _
            exact ⟨by rw [List.take_add_one, List.take_add_one, HW.out.1, ba_get a k h1, ba_get b k h2, HXY.out], drewN_more HW.out.2⟩⟩
          case measure => simp [intOf]; omega
        · have HL : Hid (ltS a b = decide (a[k].toNat < b[k].toNat)) := by show _ = _; rw [ltS_at a b k h1 h2 HW.out.1 hxy]; simp only [Int.ofNat_lt]
          have hq : ((a[k].toNat : Int) != (b[k].toNat : Int)) = true := by
            simp only [bne_iff_ne, ne_eq, Int.natCast_inj]
            exact fun e => hxy (UInt8.toNat_inj.1 e)
          clear hxy
          go_wp2_with fail
          go_quiet (fail)
          go_wp2_with fail
          go_quiet (fail)
          go_wp2_with fail
          go_ret
          exact ⟨by rw [HL.out]; rfl, drewN_more (drewN_more HW.out.2)⟩
      · have HL : Hid (ltS a b = decide (a.size < b.size)) := by show _ = _; rw [ltS_end a b k hka hkb HW.out.1 (by omega)]; simp only [Int.ofNat_lt]
        have h1i : (k : Int) < a.size := by omega
        have h2i : ¬ (k : Int) < b.size := by omega
        go_wp2_with fail
        go_ret
        exact ⟨by rw [HL.out]; rfl, HW.out.2⟩
    · have HL : Hid (ltS a b = decide (a.size < b.size)) := by show _ = _; rw [ltS_end a b k hka hkb HW.out.1 (by omega)]; simp only [Int.ofNat_lt]
      have h1i : ¬ (k : Int) < a.size := by omega
      go_wp2_with fail
      go_ret
      exact ⟨by rw [HL.out]; rfl, HW.out.2⟩
end Go.Proofs.Ytfbeepkogcmlmaa

/-
  Keys: the reference's Find. Conditions: the list lies in memory.
-/
namespace Go.Proofs.Ytfbeepkogcmlmaa
open Go Go.ChangeShapes Go.WideShapes Go.ChangeAt Go.RowKit Go.Joins Go.Deep
set_option linter.unusedVariables false
set_option linter.unusedSimpArgs false

end Go.Proofs.Ytfbeepkogcmlmaa

/-
  Keys: the reference's Zero and Check. Conditions: the string's length fits.
-/
namespace Go.Proofs.Ytfbeepkogcmlmaa
open Go Go.ChangeShapes Go.WideShapes Go.ChangeAt Go.RowKit Go.Joins Go.Deep
set_option linter.unusedVariables false
set_option linter.unusedSimpArgs false

theorem ba_snoc (s : ByteArray) (k : Nat) (h : k < s.size) : s.data.toList.take (k + 1) = s.data.toList.take k ++ [s[k]] := by
  rw [List.take_add_one, ba_get s k h]; rfl
set_option maxRecDepth 100000 in
set_option maxHeartbeats 1000000 in
theorem rzero_any (s : ByteArray) (w : World) (hs : lenok s.size) : Calls Try.prog 73 #[.string s] w fun r w' => r = .returned (.bool (zeroB s)) ∧ w' = w := by
  unfold lenok at hs
  go_enter Try.func73, Try.ntmps73
  go_wp2_with fail
  go_loop [3] (fun i => ∃ k : Nat, k ≤ s.size ∧ i = .int .i64 k ∧ Hid ((0 : UInt8) ∉ s.data.toList.take k)) (fun i => s.size - (intOf i).toNat)
  case atStart => exact ⟨0, Nat.zero_le _, rfl, by show _ ∉ _; simp⟩
  case round =>
    obtain ⟨k, hk, rfl, HW⟩ := hrel
    by_cases hlt : k < s.size
    · have hlti : (k : Int) < s.size := by omega
      by_cases h0 : s[k] = 0
      · have HZ : Hid (zeroB s = true) := by
          show _ = _
          exact decide_eq_true (List.mem_of_getElem? (by rw [ba_get s k hlt, h0]))
        have hq : ((s[k].toNat : Int) == 0) = true := by rw [h0]; rfl
        clear h0
        go_wp2_with fail
        go_ret
        exact ⟨by rw [HZ.out]; rfl, rfl⟩
      · have hq : ((s[k].toNat : Int) == 0) = false := by
          simp only [beq_eq_false_iff_ne, ne_eq]
          exact fun e => h0 (UInt8.toNat_inj.1 (by simpa using e))
        have HN := Lib.hid h0
        clear h0
        go_wp2_with fail
        go_round
        case rel => exact ⟨k + 1, by omega, by go_num, by
          show _ ∉ _
          rw [ba_snoc s k hlt]
          intro hm
          rcases List.mem_append.1 hm with hm | hm
          · exact HW.out hm
          · simp at hm; exact HN.out hm.symm⟩
        case measure => simp [intOf]; omega
    · have HZ : Hid (zeroB s = false) := by
        show _ = _
        have h := HW.out
        rw [List.take_of_length_le (by rw [ba_len]; omega)] at h
        exact decide_eq_false h
      go_wp2_with fail
      go_ret
      exact ⟨by rw [HZ.out]; rfl, rfl⟩
theorem keyE_eq (s : ByteArray) : keyE s = if zeroB s = true then 70 else 0 := by
  have h := Lib.contains_iff_indexByte s.data.toList 0
  unfold keyE zeroB
  by_cases hm : (0 : UInt8) ∈ s.data.toList
  · have h1 : s.data.toList.contains 0 = true := List.contains_iff_mem.2 hm
    rw [h1] at h
    rw [if_pos (of_decide_eq_true h.symm), if_pos (decide_eq_true hm)]
  · have h1 : s.data.toList.contains 0 = false := by rw [Bool.eq_false_iff]; exact fun e => hm (List.contains_iff_mem.1 e)
    rw [h1] at h
    rw [if_neg (of_decide_eq_false h.symm), if_neg (by simp [hm])]
end Go.Proofs.Ytfbeepkogcmlmaa

/-
  Keys: comparing lists of ints.
-/
namespace Go.Proofs.Ytfbeepkogcmlmaa
open Go Go.ChangeShapes Go.WideShapes Go.ChangeAt Go.RowKit Go.Joins Go.Deep
set_option linter.unusedVariables false
set_option linter.unusedSimpArgs false

/-- A slice of ints, read. -/
def RowI (w : World) (v : Value) (l : List Int) : Prop :=
  ∃ a c, v = .slice a l.length c ∧ l.length ≤ c ∧ lenok c ∧ (a = none → c = 0) ∧ ∀ (i : Nat) (x : Int), l[i]? = some x → True ∧ ∃ b off, a = some ⟨b, off, none⟩ ∧ w.cell? ⟨b, off + i, none⟩ = some (.int .i64 x)
end Go.Proofs.Ytfbeepkogcmlmaa

/-
  Trees: whether a node is as its kind requires (such). Conditions: the node lies in memory.
-/
namespace Go.Proofs.Ytfbeepkogcmlmaa
open Go Go.ChangeShapes Go.WideShapes Go.ChangeAt Go.RowKit Go.Joins Go.Deep
set_option linter.unusedVariables false
set_option linter.unusedSimpArgs false

/-- The program's rule for a node (P6.1 but for a child of Kind -1). -/
def suchB : Tr → Bool
  | .mk k n u s keys l => decide (1 ≤ k ∧ k ≤ 17) && (decide (usesF k = 1) || decide (n = 0)) && (decide (usesF k = 2) || decide (u = 0)) && (decide (usesF k = 4) || decide (s.toList = [])) && (decide (usesF k = 8) || decide (keys.length = 0)) &&
      (!decide (k = 2) || decide (n = 0) || decide (n = 1)) && (!decide (k = 17) || decide (keys.length = l.length)) && (!(decide (k = 15) || decide (k = 16)) || decide (2 ≤ l.length ∧ l.length ≤ 4)) && !(l.any (otherB (partF k)))
set_option maxRecDepth 100000 in
set_option maxHeartbeats 8000000 in
theorem such_any (t : Tr) (v : Value) (w : World) (hn : NodeAt w t v) :
    Calls Try.prog 36 #[v] w fun r w' => r = .returned (.bool (suchB t)) ∧ Grew w w' := by
  obtain ⟨k, n, u, s, keys, l⟩ := t
  simp only [NodeAt] at hn
  obtain ⟨hb, kv, lv, vs, rfl, hks, hrows, hkids⟩ := hn
  have hkl := hkids.length
  have HK := Lib.hid hkids
  obtain ⟨a4, c4, rfl, hkc, hkm, hx3, hx4⟩ := hks
  have HROWS := Lib.hid hrows
  obtain ⟨a5, c5, rfl, hll, hc5, hx5, hx6⟩ := hrows
  rw [hkl] at HROWS hll ⊢
  have hlen : l.length ≤ 9223372036854775807 := by unfold lenok at hc5; omega
  have hkeys : keys.length ≤ 9223372036854775807 := by unfold lenok at hkm; omega
  clear hx3 hx4 hx5 hx6 hll hc5 hkl hkids hkc hkm hb
  by_cases h1 : 1 ≤ k
  rotate_left
  · have HF : Hid (suchB (.mk k n u s keys l) = false) := by show _ = _; simp [suchB, h1]
    have hlt : k < 1 := by omega
    clear h1
    go_enter Try.func36, Try.ntmps36
    go_wp2_with fail
    go_ret
    exact ⟨by rw [HF.out]; rfl, (Grew.refl w).alloc _⟩
  by_cases h2 : k ≤ 17
  rotate_left
  · have HF : Hid (suchB (.mk k n u s keys l) = false) := by show _ = _; simp [suchB, h2]
    have hlt : ¬ k < 1 := by omega
    have hgt : 17 < k := by omega
    clear h1 h2
    go_enter Try.func36, Try.ntmps36
    go_wp2_with fail
    go_ret
    exact ⟨by rw [HF.out]; rfl, (Grew.refl w).alloc _⟩
  have hlt : ¬ k < 1 := by omega
  have hgt : ¬ 17 < k := by omega
  have H12 := Lib.hid (And.intro h1 h2)
  clear h1 h2
  go_enter Try.func36, Try.ntmps36
  go_wp2_with fail
  have hb1 := heap_alloc_new w (.cells #[.int .i64 k, .int .i64 n, .int .u64 u, .string s, .slice a4 keys.length c4, .slice a5 l.length c5] 26)
  have hg1 := (Grew.refl w).alloc (.cells #[.int .i64 k, .int .i64 n, .int .u64 u, .string s, .slice a4 keys.length c4, .slice a5 l.length c5] 26)
  generalize (w.alloc (.cells #[.int .i64 k, .int .i64 n, .int .u64 u, .string s, .slice a4 keys.length c4, .slice a5 l.length c5] 26)) = w1 at *
  obtain ⟨N, hN⟩ : ∃ N, w.heap.size = N := ⟨_, rfl⟩
  rw [hN] at hb1 ⊢
  clear hN
  have HB1 := Lib.hid hb1
  have HG := Lib.hid hg1
  have c0 := row_cellT hb1 0 _ rfl
  clear hb1 hg1 hlt hgt
  refine wp_region_last Grew [[], [0], [1], [], [3], [4], [], [2], [5, 6]] [[(16, 2), (17, 3), (18, 4), (19, 5), (4, 6), (3, 7)], [(14, 0), (17, 3), (18, 4), (19, 5), (4, 6), (3, 7)], [(14, 0), (15, 1), (17, 3), (18, 4), (19, 5), (4, 6)], [(14, 0), (15, 1), (16, 2), (19, 5), (4, 6), (3, 7)], [(14, 0), (15, 1), (16, 2), (17, 3), (4, 6), (3, 7)], [(14, 0), (15, 1), (16, 2), (17, 3), (18, 4), (4, 6), (3, 7)], [(14, 0), (15, 1), (16, 2), (17, 3), (18, 4), (19, 5), (3, 7)], [(14, 0), (15, 1), (16, 2), (17, 3), (18, 4), (19, 5), (4, 6)], [(14, 0), (15, 1), (16, 2), (17, 3), (18, 4), (19, 5), (4, 6), (3, 7)]]
    [Is (.pointer (some ⟨N, 0, none⟩)), Is (.int .i64 k), Is (.int .i64 (usesF k)), Is (.pointer (some ⟨N, 0, none⟩)), Is (.int .i64 k), Is (.int .i64 (partF k)), fun v w => ∃ g, v = .pointer (some ⟨g, 0, none⟩) ∧ w1.heap.size ≤ g ∧ w.heap[g]? = some (.cells #[.int .i64 0] 3 (0, 0)), Is (.int .i64 (usesF k))]
    (by kernel_rfl) Grew.trans Grew.refl (Grew.refl _).drew (by kernel_rfl) ⟨is_st, is_st, is_st, is_st, is_st, is_st, fun _ _ _ hg h => h.elim fun q h => ⟨q, h.1, h.2.1, hg.heap h.2.2⟩, is_st, trivial⟩ rfl ⟨?_, ?_, ?_, ?_, ?_, ?_, ?_, ?_, trivial⟩ ?_ rfl
  · intro y w2' hG hD K hK
    simp only [fillL, Act.put, List.setIfInBounds_toArray, List.set_cons_zero, List.set_cons_succ, List.getD_cons_zero, List.getD_cons_succ, Is] at hK ⊢
    refine ite_yes (by rfl) ?_
    go_simp
    exact hK _ _ _ rfl (Grew.refl _) rfl
  · intro y w2' hG hD K hK
    simp only [depsH, List.getD_cons_zero, List.getD_cons_succ, Is, and_true] at hD
    have h0 := hD
    clear hD
    have dc0 := hG.cell c0
    simp only [fillL, Act.put, List.setIfInBounds_toArray, List.set_cons_zero, List.set_cons_succ, List.getD_cons_zero, List.getD_cons_succ, Is] at hK ⊢
    rw [h0] at hK ⊢
    clear h0
    refine ite_yes (by rfl) ?_
    go_simp
    exact hK _ _ _ rfl (Grew.refl _) rfl
  · intro y w2' hG hD K hK
    simp only [depsH, List.getD_cons_zero, List.getD_cons_succ, Is, and_true] at hD
    have h1 := hD
    clear hD
    simp only [fillL, Act.put, List.setIfInBounds_toArray, List.set_cons_zero, List.set_cons_succ, List.getD_cons_zero, List.getD_cons_succ, Is] at hK ⊢
    rw [h1] at hK ⊢
    clear h1
    refine ite_yes (by rfl) ?_
    go_simp
    refine (uses_any k _ H12.out.1 H12.out.2).mono ?_
    rintro r w3 ⟨rfl, rfl⟩
    exact hK _ _ _ rfl (Grew.refl _) rfl
  · intro y w2' hG hD K hK
    simp only [fillL, Act.put, List.setIfInBounds_toArray, List.set_cons_zero, List.set_cons_succ, List.getD_cons_zero, List.getD_cons_succ, Is] at hK ⊢
    refine ite_yes (by rfl) ?_
    go_simp
    exact hK _ _ _ rfl (Grew.refl _) rfl
  · intro y w2' hG hD K hK
    simp only [depsH, List.getD_cons_zero, List.getD_cons_succ, Is, and_true] at hD
    have h3 := hD
    clear hD
    have dc0 := hG.cell c0
    simp only [fillL, Act.put, List.setIfInBounds_toArray, List.set_cons_zero, List.set_cons_succ, List.getD_cons_zero, List.getD_cons_succ, Is] at hK ⊢
    rw [h3] at hK ⊢
    clear h3
    refine ite_yes (by rfl) ?_
    go_simp
    exact hK _ _ _ rfl (Grew.refl _) rfl
  · intro y w2' hG hD K hK
    simp only [depsH, List.getD_cons_zero, List.getD_cons_succ, Is, and_true] at hD
    have h4 := hD
    clear hD
    simp only [fillL, Act.put, List.setIfInBounds_toArray, List.set_cons_zero, List.set_cons_succ, List.getD_cons_zero, List.getD_cons_succ, Is] at hK ⊢
    rw [h4] at hK ⊢
    clear h4
    refine ite_yes (by rfl) ?_
    go_simp
    refine (part_any k _ H12.out.1 H12.out.2).mono ?_
    rintro r w3 ⟨rfl, rfl⟩
    exact hK _ _ _ rfl (Grew.refl _) rfl
  · intro y w2' hG hD K hK
    simp only [fillL, Act.put, List.setIfInBounds_toArray, List.set_cons_zero, List.set_cons_succ, List.getD_cons_zero, List.getD_cons_succ, Is] at hK ⊢
    refine ite_yes (by rfl) ?_
    go_simp
    exact hK _ _ _ rfl ((Grew.refl _).alloc _) ⟨_, rfl, hG.size, heap_alloc_new _ _⟩
  · intro y w2' hG hD K hK
    simp only [depsH, List.getD_cons_zero, List.getD_cons_succ, Is, and_true] at hD
    have h2 := hD
    clear hD
    simp only [fillL, Act.put, List.setIfInBounds_toArray, List.set_cons_zero, List.set_cons_succ, List.getD_cons_zero, List.getD_cons_succ, Is] at hK ⊢
    rw [h2] at hK ⊢
    clear h2
    refine ite_yes (by rfl) ?_
    go_simp
    exact hK _ _ _ rfl (Grew.refl _) rfl
  · intro y w2' hG hF K hK
    simp only [factsH, Is, and_true, Nat.reduceAdd] at hF
    have h0 := hF.1
    have h1 := hF.2.1
    have h2 := hF.2.2.1
    have h3 := hF.2.2.2.1
    have h4 := hF.2.2.2.2.1
    have h5 := hF.2.2.2.2.2.1
    have h6 := hF.2.2.2.2.2.2.1
    have h7 := hF.2.2.2.2.2.2.2
    clear hF
    simp only [lastOf]
    simp only [fillL, Act.put, List.setIfInBounds_toArray, List.set_cons_zero, List.set_cons_succ, List.getD_cons_zero, List.getD_cons_succ, Is] at hK ⊢
    rw [h0, h1, h2, h3, h4, h5, h7]
    clear h0 h1 h2 h3 h4 h5 h7
    refine ite_yes (by rfl) ?_
    refine Exists.elim h6 fun g h => ?_
    have hs6 := h.1
    have hgB := h.2.1
    have hrow := h.2.2
    clear h h6
    rw [hs6]
    clear hs6
    have f0 := row_frozen hrow 0
    have d0 := row_cellT hrow 0 _ rfl
    have hrow2 : (w2'.setCell ⟨g, 0, none⟩ (.int .i64 (partF k))).heap[g]? = some (.cells #[.int .i64 (partF k)] 3 (0, 0)) := by have := heap_setCell_same w2' g 0 _ _ (.int .i64 (partF k)) hrow; simpa using this
    have hmv : Moved (fun q => q = g) w2' (w2'.setCell ⟨g, 0, none⟩ (.int .i64 (partF k))) := Moved.setCell (S := fun q => q = g) (p := ⟨g, 0, none⟩) (Moved.refl _ w2') (fun _ => rfl) _
    have hgr : Grew w1 _ := Moved.fresh hG hmv (fun q e => by omega)
    clear hG hrow hmv
    go_simp
    refine hK _ _ ?_
    clear f0 d0 hK
    generalize (w2'.setCell ⟨g, 0, none⟩ (.int .i64 (partF k))) = w3 at *
    have hb3 := hgr.heap HB1.out
    have HGC := Lib.hid (HG.out.trans hgr)
    replace c0 := row_cellT hb3 0 _ rfl
    have c1 := row_cellT hb3 1 _ rfl
    have c2 := row_cellT hb3 2 _ rfl
    have c3 := row_cellT hb3 3 _ rfl
    have c4' := row_cellT hb3 4 _ rfl
    have c5' := row_cellT hb3 5 _ rfl
    have HCALL : Hid (Calls Try.prog 58 #[.slice a5 l.length c5, .func (.func 57) #[] #[.pointer (some ⟨g, 0, none⟩)]] w3 fun r w' => r = .returned (.bool (l.any (otherB (partF k)))) ∧ Grew w3 w') := contains_any (partF k) g l _ vs w3 (HROWS.out.grew HGC.out) (HK.out.grew HGC.out) (row_cellT hrow2 0 _ rfl)
    clear hb3 hrow2 hgr hgB HB1 HG
    obtain ⟨h1, h2⟩ := H12.out
    clear H12
    rcases kinds k h1 h2 with rfl | rfl | rfl | rfl | rfl | rfl | rfl | rfl | rfl | rfl | rfl | rfl | rfl | rfl | rfl | rfl | rfl
    · clear h1 h2
      rw [show usesF 1 = 0 from rfl]
      have hm1 : bits BinOp.and IntKind.i64 0 1 = 0 := by kernel_rfl
      have hm2 : bits BinOp.and IntKind.i64 0 2 = 0 := by kernel_rfl
      have hm4 : bits BinOp.and IntKind.i64 0 4 = 0 := by kernel_rfl
      have hm8 : bits BinOp.and IntKind.i64 0 8 = 0 := by kernel_rfl
      go_wp2_with (go_at_call 58; refine HCALL.out.mono ?_; rintro r w4 ⟨rfl, hg⟩; have HGD := Lib.hid (HGC.out.trans hg); clear hg)
      all_goals
        go_ret
        first
        | (refine ⟨?_, HGD.out⟩
           clear HCALL HGC HK HROWS HGD
           refine ret_bool ?_
           (simp_all [suchB, usesF, List.length_pos_iff]; try omega))
        | (refine ⟨?_, HGC.out⟩
           clear HCALL HGC HK HROWS
           refine ret_bool ?_
           (simp_all [suchB, usesF, List.length_pos_iff]; try omega))
    · clear h1 h2
      rw [show usesF 2 = 1 from rfl]
      have hm1 : bits BinOp.and IntKind.i64 1 1 = 1 := by kernel_rfl
      have hm2 : bits BinOp.and IntKind.i64 1 2 = 0 := by kernel_rfl
      have hm4 : bits BinOp.and IntKind.i64 1 4 = 0 := by kernel_rfl
      have hm8 : bits BinOp.and IntKind.i64 1 8 = 0 := by kernel_rfl
      go_wp2_with (go_at_call 58; refine HCALL.out.mono ?_; rintro r w4 ⟨rfl, hg⟩; have HGD := Lib.hid (HGC.out.trans hg); clear hg)
      all_goals
        go_ret
        first
        | (refine ⟨?_, HGD.out⟩
           clear HCALL HGC HK HROWS HGD
           refine ret_bool ?_
           (simp_all [suchB, usesF, List.length_pos_iff]; try omega))
        | (refine ⟨?_, HGC.out⟩
           clear HCALL HGC HK HROWS
           refine ret_bool ?_
           (simp_all [suchB, usesF, List.length_pos_iff]; try omega))
    · clear h1 h2
      rw [show usesF 3 = 1 from rfl]
      have hm1 : bits BinOp.and IntKind.i64 1 1 = 1 := by kernel_rfl
      have hm2 : bits BinOp.and IntKind.i64 1 2 = 0 := by kernel_rfl
      have hm4 : bits BinOp.and IntKind.i64 1 4 = 0 := by kernel_rfl
      have hm8 : bits BinOp.and IntKind.i64 1 8 = 0 := by kernel_rfl
      go_wp2_with (go_at_call 58; refine HCALL.out.mono ?_; rintro r w4 ⟨rfl, hg⟩; have HGD := Lib.hid (HGC.out.trans hg); clear hg)
      all_goals
        go_ret
        first
        | (refine ⟨?_, HGD.out⟩
           clear HCALL HGC HK HROWS HGD
           refine ret_bool ?_
           (simp_all [suchB, usesF, List.length_pos_iff]; try omega))
        | (refine ⟨?_, HGC.out⟩
           clear HCALL HGC HK HROWS
           refine ret_bool ?_
           (simp_all [suchB, usesF, List.length_pos_iff]; try omega))
    · clear h1 h2
      rw [show usesF 4 = 2 from rfl]
      have hm1 : bits BinOp.and IntKind.i64 2 1 = 0 := by kernel_rfl
      have hm2 : bits BinOp.and IntKind.i64 2 2 = 2 := by kernel_rfl
      have hm4 : bits BinOp.and IntKind.i64 2 4 = 0 := by kernel_rfl
      have hm8 : bits BinOp.and IntKind.i64 2 8 = 0 := by kernel_rfl
      go_wp2_with (go_at_call 58; refine HCALL.out.mono ?_; rintro r w4 ⟨rfl, hg⟩; have HGD := Lib.hid (HGC.out.trans hg); clear hg)
      all_goals
        go_ret
        first
        | (refine ⟨?_, HGD.out⟩
           clear HCALL HGC HK HROWS HGD
           refine ret_bool ?_
           (simp_all [suchB, usesF, List.length_pos_iff]; try omega))
        | (refine ⟨?_, HGC.out⟩
           clear HCALL HGC HK HROWS
           refine ret_bool ?_
           (simp_all [suchB, usesF, List.length_pos_iff]; try omega))
    · clear h1 h2
      rw [show usesF 5 = 4 from rfl]
      have hm1 : bits BinOp.and IntKind.i64 4 1 = 0 := by kernel_rfl
      have hm2 : bits BinOp.and IntKind.i64 4 2 = 0 := by kernel_rfl
      have hm4 : bits BinOp.and IntKind.i64 4 4 = 4 := by kernel_rfl
      have hm8 : bits BinOp.and IntKind.i64 4 8 = 0 := by kernel_rfl
      go_wp2_with (go_at_call 58; refine HCALL.out.mono ?_; rintro r w4 ⟨rfl, hg⟩; have HGD := Lib.hid (HGC.out.trans hg); clear hg)
      all_goals
        go_ret
        first
        | (refine ⟨?_, HGD.out⟩
           clear HCALL HGC HK HROWS HGD
           refine ret_bool ?_
           (simp_all [suchB, usesF, List.length_pos_iff]; try omega))
        | (refine ⟨?_, HGC.out⟩
           clear HCALL HGC HK HROWS
           refine ret_bool ?_
           (simp_all [suchB, usesF, List.length_pos_iff]; try omega))
    · clear h1 h2
      rw [show usesF 6 = 4 from rfl]
      have hm1 : bits BinOp.and IntKind.i64 4 1 = 0 := by kernel_rfl
      have hm2 : bits BinOp.and IntKind.i64 4 2 = 0 := by kernel_rfl
      have hm4 : bits BinOp.and IntKind.i64 4 4 = 4 := by kernel_rfl
      have hm8 : bits BinOp.and IntKind.i64 4 8 = 0 := by kernel_rfl
      go_wp2_with (go_at_call 58; refine HCALL.out.mono ?_; rintro r w4 ⟨rfl, hg⟩; have HGD := Lib.hid (HGC.out.trans hg); clear hg)
      all_goals
        go_ret
        first
        | (refine ⟨?_, HGD.out⟩
           clear HCALL HGC HK HROWS HGD
           refine ret_bool ?_
           (simp_all [suchB, usesF, List.length_pos_iff]; try omega))
        | (refine ⟨?_, HGC.out⟩
           clear HCALL HGC HK HROWS
           refine ret_bool ?_
           (simp_all [suchB, usesF, List.length_pos_iff]; try omega))
    · clear h1 h2
      rw [show usesF 7 = 4 from rfl]
      have hm1 : bits BinOp.and IntKind.i64 4 1 = 0 := by kernel_rfl
      have hm2 : bits BinOp.and IntKind.i64 4 2 = 0 := by kernel_rfl
      have hm4 : bits BinOp.and IntKind.i64 4 4 = 4 := by kernel_rfl
      have hm8 : bits BinOp.and IntKind.i64 4 8 = 0 := by kernel_rfl
      go_wp2_with (go_at_call 58; refine HCALL.out.mono ?_; rintro r w4 ⟨rfl, hg⟩; have HGD := Lib.hid (HGC.out.trans hg); clear hg)
      all_goals
        go_ret
        first
        | (refine ⟨?_, HGD.out⟩
           clear HCALL HGC HK HROWS HGD
           refine ret_bool ?_
           (simp_all [suchB, usesF, List.length_pos_iff]; try omega))
        | (refine ⟨?_, HGC.out⟩
           clear HCALL HGC HK HROWS
           refine ret_bool ?_
           (simp_all [suchB, usesF, List.length_pos_iff]; try omega))
    · clear h1 h2
      rw [show usesF 8 = 1 from rfl]
      have hm1 : bits BinOp.and IntKind.i64 1 1 = 1 := by kernel_rfl
      have hm2 : bits BinOp.and IntKind.i64 1 2 = 0 := by kernel_rfl
      have hm4 : bits BinOp.and IntKind.i64 1 4 = 0 := by kernel_rfl
      have hm8 : bits BinOp.and IntKind.i64 1 8 = 0 := by kernel_rfl
      go_wp2_with (go_at_call 58; refine HCALL.out.mono ?_; rintro r w4 ⟨rfl, hg⟩; have HGD := Lib.hid (HGC.out.trans hg); clear hg)
      all_goals
        go_ret
        first
        | (refine ⟨?_, HGD.out⟩
           clear HCALL HGC HK HROWS HGD
           refine ret_bool ?_
           (simp_all [suchB, usesF, List.length_pos_iff]; try omega))
        | (refine ⟨?_, HGC.out⟩
           clear HCALL HGC HK HROWS
           refine ret_bool ?_
           (simp_all [suchB, usesF, List.length_pos_iff]; try omega))
    · clear h1 h2
      rw [show usesF 9 = 2 from rfl]
      have hm1 : bits BinOp.and IntKind.i64 2 1 = 0 := by kernel_rfl
      have hm2 : bits BinOp.and IntKind.i64 2 2 = 2 := by kernel_rfl
      have hm4 : bits BinOp.and IntKind.i64 2 4 = 0 := by kernel_rfl
      have hm8 : bits BinOp.and IntKind.i64 2 8 = 0 := by kernel_rfl
      go_wp2_with (go_at_call 58; refine HCALL.out.mono ?_; rintro r w4 ⟨rfl, hg⟩; have HGD := Lib.hid (HGC.out.trans hg); clear hg)
      all_goals
        go_ret
        first
        | (refine ⟨?_, HGD.out⟩
           clear HCALL HGC HK HROWS HGD
           refine ret_bool ?_
           (simp_all [suchB, usesF, List.length_pos_iff]; try omega))
        | (refine ⟨?_, HGC.out⟩
           clear HCALL HGC HK HROWS
           refine ret_bool ?_
           (simp_all [suchB, usesF, List.length_pos_iff]; try omega))
    · clear h1 h2
      rw [show usesF 10 = 0 from rfl]
      have hm1 : bits BinOp.and IntKind.i64 0 1 = 0 := by kernel_rfl
      have hm2 : bits BinOp.and IntKind.i64 0 2 = 0 := by kernel_rfl
      have hm4 : bits BinOp.and IntKind.i64 0 4 = 0 := by kernel_rfl
      have hm8 : bits BinOp.and IntKind.i64 0 8 = 0 := by kernel_rfl
      go_wp2_with (go_at_call 58; refine HCALL.out.mono ?_; rintro r w4 ⟨rfl, hg⟩; have HGD := Lib.hid (HGC.out.trans hg); clear hg)
      all_goals
        go_ret
        first
        | (refine ⟨?_, HGD.out⟩
           clear HCALL HGC HK HROWS HGD
           refine ret_bool ?_
           (simp_all [suchB, usesF, List.length_pos_iff]; try omega))
        | (refine ⟨?_, HGC.out⟩
           clear HCALL HGC HK HROWS
           refine ret_bool ?_
           (simp_all [suchB, usesF, List.length_pos_iff]; try omega))
    · clear h1 h2
      rw [show usesF 11 = 0 from rfl]
      have hm1 : bits BinOp.and IntKind.i64 0 1 = 0 := by kernel_rfl
      have hm2 : bits BinOp.and IntKind.i64 0 2 = 0 := by kernel_rfl
      have hm4 : bits BinOp.and IntKind.i64 0 4 = 0 := by kernel_rfl
      have hm8 : bits BinOp.and IntKind.i64 0 8 = 0 := by kernel_rfl
      go_wp2_with (go_at_call 58; refine HCALL.out.mono ?_; rintro r w4 ⟨rfl, hg⟩; have HGD := Lib.hid (HGC.out.trans hg); clear hg)
      all_goals
        go_ret
        first
        | (refine ⟨?_, HGD.out⟩
           clear HCALL HGC HK HROWS HGD
           refine ret_bool ?_
           (simp_all [suchB, usesF, List.length_pos_iff]; try omega))
        | (refine ⟨?_, HGC.out⟩
           clear HCALL HGC HK HROWS
           refine ret_bool ?_
           (simp_all [suchB, usesF, List.length_pos_iff]; try omega))
    · clear h1 h2
      rw [show usesF 12 = 0 from rfl]
      have hm1 : bits BinOp.and IntKind.i64 0 1 = 0 := by kernel_rfl
      have hm2 : bits BinOp.and IntKind.i64 0 2 = 0 := by kernel_rfl
      have hm4 : bits BinOp.and IntKind.i64 0 4 = 0 := by kernel_rfl
      have hm8 : bits BinOp.and IntKind.i64 0 8 = 0 := by kernel_rfl
      go_wp2_with (go_at_call 58; refine HCALL.out.mono ?_; rintro r w4 ⟨rfl, hg⟩; have HGD := Lib.hid (HGC.out.trans hg); clear hg)
      all_goals
        go_ret
        first
        | (refine ⟨?_, HGD.out⟩
           clear HCALL HGC HK HROWS HGD
           refine ret_bool ?_
           (simp_all [suchB, usesF, List.length_pos_iff]; try omega))
        | (refine ⟨?_, HGC.out⟩
           clear HCALL HGC HK HROWS
           refine ret_bool ?_
           (simp_all [suchB, usesF, List.length_pos_iff]; try omega))
    · clear h1 h2
      rw [show usesF 13 = 0 from rfl]
      have hm1 : bits BinOp.and IntKind.i64 0 1 = 0 := by kernel_rfl
      have hm2 : bits BinOp.and IntKind.i64 0 2 = 0 := by kernel_rfl
      have hm4 : bits BinOp.and IntKind.i64 0 4 = 0 := by kernel_rfl
      have hm8 : bits BinOp.and IntKind.i64 0 8 = 0 := by kernel_rfl
      go_wp2_with (go_at_call 58; refine HCALL.out.mono ?_; rintro r w4 ⟨rfl, hg⟩; have HGD := Lib.hid (HGC.out.trans hg); clear hg)
      all_goals
        go_ret
        first
        | (refine ⟨?_, HGD.out⟩
           clear HCALL HGC HK HROWS HGD
           refine ret_bool ?_
           (simp_all [suchB, usesF, List.length_pos_iff]; try omega))
        | (refine ⟨?_, HGC.out⟩
           clear HCALL HGC HK HROWS
           refine ret_bool ?_
           (simp_all [suchB, usesF, List.length_pos_iff]; try omega))
    · clear h1 h2
      rw [show usesF 14 = 0 from rfl]
      have hm1 : bits BinOp.and IntKind.i64 0 1 = 0 := by kernel_rfl
      have hm2 : bits BinOp.and IntKind.i64 0 2 = 0 := by kernel_rfl
      have hm4 : bits BinOp.and IntKind.i64 0 4 = 0 := by kernel_rfl
      have hm8 : bits BinOp.and IntKind.i64 0 8 = 0 := by kernel_rfl
      go_wp2_with (go_at_call 58; refine HCALL.out.mono ?_; rintro r w4 ⟨rfl, hg⟩; have HGD := Lib.hid (HGC.out.trans hg); clear hg)
      all_goals
        go_ret
        first
        | (refine ⟨?_, HGD.out⟩
           clear HCALL HGC HK HROWS HGD
           refine ret_bool ?_
           (simp_all [suchB, usesF, List.length_pos_iff]; try omega))
        | (refine ⟨?_, HGC.out⟩
           clear HCALL HGC HK HROWS
           refine ret_bool ?_
           (simp_all [suchB, usesF, List.length_pos_iff]; try omega))
    · clear h1 h2
      rw [show usesF 15 = 0 from rfl]
      have hm1 : bits BinOp.and IntKind.i64 0 1 = 0 := by kernel_rfl
      have hm2 : bits BinOp.and IntKind.i64 0 2 = 0 := by kernel_rfl
      have hm4 : bits BinOp.and IntKind.i64 0 4 = 0 := by kernel_rfl
      have hm8 : bits BinOp.and IntKind.i64 0 8 = 0 := by kernel_rfl
      go_wp2_with (go_at_call 58; refine HCALL.out.mono ?_; rintro r w4 ⟨rfl, hg⟩; have HGD := Lib.hid (HGC.out.trans hg); clear hg)
      all_goals
        go_ret
        first
        | (refine ⟨?_, HGD.out⟩
           clear HCALL HGC HK HROWS HGD
           refine ret_bool ?_
           (simp_all [suchB, usesF, List.length_pos_iff]; try omega))
        | (refine ⟨?_, HGC.out⟩
           clear HCALL HGC HK HROWS
           refine ret_bool ?_
           (simp_all [suchB, usesF, List.length_pos_iff]; try omega))
    · clear h1 h2
      rw [show usesF 16 = 0 from rfl]
      have hm1 : bits BinOp.and IntKind.i64 0 1 = 0 := by kernel_rfl
      have hm2 : bits BinOp.and IntKind.i64 0 2 = 0 := by kernel_rfl
      have hm4 : bits BinOp.and IntKind.i64 0 4 = 0 := by kernel_rfl
      have hm8 : bits BinOp.and IntKind.i64 0 8 = 0 := by kernel_rfl
      go_wp2_with (go_at_call 58; refine HCALL.out.mono ?_; rintro r w4 ⟨rfl, hg⟩; have HGD := Lib.hid (HGC.out.trans hg); clear hg)
      all_goals
        go_ret
        first
        | (refine ⟨?_, HGD.out⟩
           clear HCALL HGC HK HROWS HGD
           refine ret_bool ?_
           (simp_all [suchB, usesF, List.length_pos_iff]; try omega))
        | (refine ⟨?_, HGC.out⟩
           clear HCALL HGC HK HROWS
           refine ret_bool ?_
           (simp_all [suchB, usesF, List.length_pos_iff]; try omega))
    · clear h1 h2
      rw [show usesF 17 = 8 from rfl]
      have hm1 : bits BinOp.and IntKind.i64 8 1 = 0 := by kernel_rfl
      have hm2 : bits BinOp.and IntKind.i64 8 2 = 0 := by kernel_rfl
      have hm4 : bits BinOp.and IntKind.i64 8 4 = 0 := by kernel_rfl
      have hm8 : bits BinOp.and IntKind.i64 8 8 = 8 := by kernel_rfl
      go_wp2_with (go_at_call 58; refine HCALL.out.mono ?_; rintro r w4 ⟨rfl, hg⟩; have HGD := Lib.hid (HGC.out.trans hg); clear hg)
      all_goals
        go_ret
        first
        | (refine ⟨?_, HGD.out⟩
           clear HCALL HGC HK HROWS HGD
           refine ret_bool ?_
           (simp_all [suchB, usesF, List.length_pos_iff]; try omega))
        | (refine ⟨?_, HGC.out⟩
           clear HCALL HGC HK HROWS
           refine ret_bool ?_
           (simp_all [suchB, usesF, List.length_pos_iff]; try omega))
end Go.Proofs.Ytfbeepkogcmlmaa
