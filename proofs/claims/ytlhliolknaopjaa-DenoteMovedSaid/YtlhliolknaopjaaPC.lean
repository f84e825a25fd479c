/-
  Texts of the proof, part 3 of 9.
-/
import Derived.Shelf.Small.Bits
import Derived.Shelf.Small.Strs
import Derived.Shelf.Strconv.Itoa0
import Derived.Shelf.Strings.Search1
import Derived.Ground.SlsfProg
import Derived.Shelf.SlSortCmp.Insertion
import Derived.Shelf.SlSortCmp.SiftDown1
import Derived.Shelf.SlSortCmp.HeapSort1
import Derived.Shelf.SlSortCmp.Insertion1
import Derived.Shelf.SlSortCmp.Median1
import Derived.Shelf.SlSortCmp.Pivot1
import Derived.Shelf.SlSortCmp.ReverseRange1
import Derived.Shelf.SlSortCmp.PartialInsertion1
import Derived.Shelf.SlSortCmp.PartitionEqual1
import Derived.Shelf.SlSortCmp.Partition1
import Derived.Shelf.SlSortCmp.Pdq1
import Derived.Shelf.SlSortCmp.Whole1
import Derived.Shelf.SlSortCmp.NoneTotal
import Derived.Test.YtlhliolknaopjaaProg
import Derived.Test.YtlhliolknaopjaaPB
import Derived.Maps.OwnOps
import Derived.Maps.Views
import Derived.Lib.IndexAny
import Derived.Deep.OwnRows
import Derived.Test.YtlhliolknaopjaaPA
import Derived.Deep.CutBlock
import Derived.Deep.DeepCutAuto
import Derived.Laws.BytesArg

/-
  DERIVED: THE SHELF's CONTRACTS AT THIS DUMP, IN PLAIN WORDS (tools/lay-plain.mjs out of 'TryShelf.lean', which tools/lay-shelf.mjs wrote): THE SAME DECLARATIONS UNDER THE SAME NAMES: 'import', 'namespace', 'open', 'def', 'theorem' AND NOTHING ELSE: no command of the shelf's: FOR A HAND-IN. Each laying: the table of numbers ('.._ren') and one theorem, a field a fact of the dump's own or the kernel's comparison; each contract: ONE APPLICATION.
-/
namespace Go.Proofs
open Go.Shelf
def Try.lays128_ren : Go.Shelf.Ren := ⟨fun | 128 => 124 | n => n, fun | 51 => 128 | 3 => 3 | 4 => 4 | 46 => 119 | 5 => 5 | 9 => 9 | n => n, fun | n => n⟩
theorem Try.lays128 : Go.Proofs.Lays.n128 Try.prog Try.lays128_ren := {
  mixed := by kernel_rfl
  f128 := Try.func124.trans (congrArg some (by kernel_rfl))
  t3 := Try.underlying3
  a3 := Try.isAgg3
  z3 := Try.sizeOf3
  v3 := Try.zeroValue3
  t4 := Try.underlying4
  a4 := Try.isAgg4
  z4 := Try.sizeOf4
  v4 := Try.zeroValue4
  t5 := Try.underlying5
  a5 := Try.isAgg5
  z5 := Try.sizeOf5
  v5 := Try.zeroValue5
  t9 := Try.underlying9
  a9 := Try.isAgg9
  z9 := Try.sizeOf9
  v9 := Try.zeroValue9
  t46 := Try.underlying119
  a46 := Try.isAgg119
  z46 := Try.sizeOf119
  v46 := Try.zeroValue119
  t51 := Try.underlying128
  a51 := Try.isAgg128
  z51 := Try.sizeOf128
  v51 := Try.zeroValue128 }
/-- bits.Len32: "Len32 returns the minimum number of bits required to represent x; the result is 0 for x == 0.": IT RETURNS 'Lib.bitLen x'; the world is as it was. ('h0', 'h1': x is a uint32.) (LAID: no walk: one application.) -/
theorem Try.bits_Len32 (x : Int) (w : World) (h0 : 0 ≤ x) (h1 : x ≤ 4294967295) :
    Calls Try.prog 124 #[.int .u32 x] w fun e w' => e = .returned (.int .i64 (Lib.bitLen x.toNat)) ∧ w' = w := Any.bits_Len32 Try.lays128 x w h0 h1
def Try.lays125_ren : Go.Shelf.Ren := ⟨fun | 125 => 110 | 128 => 124 | 129 => 125 | n => n, fun | 46 => 119 | 3 => 3 | 51 => 128 | 53 => 23 | 4 => 4 | 5 => 5 | 9 => 9 | n => n, fun | n => n⟩
theorem Try.lays125 : Go.Proofs.Lays.n125 Try.prog Try.lays125_ren := {
  mixed := by kernel_rfl
  f125 := Try.func110.trans (congrArg some (by kernel_rfl))
  f128 := Try.func124.trans (congrArg some (by kernel_rfl))
  f129 := Try.func125.trans (congrArg some (by kernel_rfl))
  t3 := Try.underlying3
  a3 := Try.isAgg3
  z3 := Try.sizeOf3
  v3 := Try.zeroValue3
  t4 := Try.underlying4
  a4 := Try.isAgg4
  z4 := Try.sizeOf4
  v4 := Try.zeroValue4
  t5 := Try.underlying5
  a5 := Try.isAgg5
  z5 := Try.sizeOf5
  v5 := Try.zeroValue5
  t9 := Try.underlying9
  a9 := Try.isAgg9
  z9 := Try.sizeOf9
  v9 := Try.zeroValue9
  t46 := Try.underlying119
  a46 := Try.isAgg119
  z46 := Try.sizeOf119
  v46 := Try.zeroValue119
  t51 := Try.underlying128
  a51 := Try.isAgg128
  z51 := Try.sizeOf128
  v51 := Try.zeroValue128
  t53 := Try.underlying23
  a53 := Try.isAgg23
  z53 := Try.sizeOf23
  v53 := Try.zeroValue23 }
/-- bits.Len: "Len returns the minimum number of bits required to represent x; the result is 0 for x == 0.": IT RETURNS 'Lib.bitLen x'; the world is as it was. (A uint has 64 bits in the model.) ITS CALLEE bits.Len64 IS MET BY ITS OWN CONTRACT OFF THE SHELF (lay that first). (LAID: no walk: one application.) -/
theorem Try.bits_Len (x : Int) (w : World) (h0 : 0 ≤ x) (h1 : x ≤ 18446744073709551615) :
    Calls Try.prog 110 #[.int .u64 x] w fun e w' => e = .returned (.int .i64 (Lib.bitLen x.toNat)) ∧ w' = w := Any.bits_Len Try.lays125 x w h0 h1
def Try.lays213_ren : Go.Shelf.Ren := ⟨fun | 213 => 111 | 265 => 126 | n => n, fun | 9 => 9 | 3 => 3 | n => n, fun | n => n⟩
theorem Try.lays213 : Go.Proofs.Lays.n213 Try.prog Try.lays213_ren := {
  mixed := by kernel_rfl
  f213 := Try.func111.trans (congrArg some (by kernel_rfl))
  f265 := Try.func126.trans (congrArg some (by kernel_rfl))
  t3 := Try.underlying3
  a3 := Try.isAgg3
  z3 := Try.sizeOf3
  v3 := Try.zeroValue3
  t9 := Try.underlying9
  a9 := Try.isAgg9
  z9 := Try.sizeOf9
  v9 := Try.zeroValue9 }
open Go.RowKit in
/-- internal/bytealg.CompareString (what strings.Compare calls): IT RETURNS 'Lib.compareBytes a b'; the world is as it was. (LAID: no walk: one application.) -/
theorem Try.bytealg_CompareString (a b : ByteArray) (w : World) :
    Calls Try.prog 111 #[.string a, .string b] w fun e w' => e = .returned (.int .i64 (Lib.compareBytes a.data.toList b.data.toList)) ∧ w' = w := Any.bytealg_CompareString Try.lays213 a b w
def Try.lays106_ren : Go.Shelf.Ren := ⟨fun | 106 => 95 | 213 => 111 | 265 => 126 | n => n, fun | 9 => 9 | 3 => 3 | n => n, fun | n => n⟩
theorem Try.lays106 : Go.Proofs.Lays.n106 Try.prog Try.lays106_ren := {
  mixed := by kernel_rfl
  f106 := Try.func95.trans (congrArg some (by kernel_rfl))
  f213 := Try.func111.trans (congrArg some (by kernel_rfl))
  f265 := Try.func126.trans (congrArg some (by kernel_rfl))
  t3 := Try.underlying3
  a3 := Try.isAgg3
  z3 := Try.sizeOf3
  v3 := Try.zeroValue3
  t9 := Try.underlying9
  a9 := Try.isAgg9
  z9 := Try.sizeOf9
  v9 := Try.zeroValue9 }
open Go.RowKit in
/-- strings.Compare: "Compare returns an integer comparing two strings lexicographically. The result will be 0 if a == b, -1 if a < b, and +1 if a > b.": IT RETURNS 'Lib.compareBytes a b'; the world is as it was. (LAID: no walk: one application.) -/
theorem Try.strings_Compare (a b : ByteArray) (w : World) :
    Calls Try.prog 95 #[.string a, .string b] w fun e w' => e = .returned (.int .i64 (Lib.compareBytes a.data.toList b.data.toList)) ∧ w' = w := Any.strings_Compare Try.lays106 a b w
def Try.lays137_ren : Go.Shelf.Ren := ⟨fun | 137 => 67 | 217 => 92 | 266 => 108 | n => n, fun | 9 => 9 | 5 => 5 | 3 => 3 | n => n, fun | n => n⟩
theorem Try.lays137 : Go.Proofs.Lays.n137 Try.prog Try.lays137_ren := {
  mixed := by kernel_rfl
  f137 := Try.func67.trans (congrArg some (by kernel_rfl))
  f217 := Try.func92.trans (congrArg some (by kernel_rfl))
  f266 := Try.func108.trans (congrArg some (by kernel_rfl))
  t3 := Try.underlying3
  a3 := Try.isAgg3
  z3 := Try.sizeOf3
  v3 := Try.zeroValue3
  t5 := Try.underlying5
  a5 := Try.isAgg5
  z5 := Try.sizeOf5
  v5 := Try.zeroValue5
  t9 := Try.underlying9
  a9 := Try.isAgg9
  z9 := Try.sizeOf9
  v9 := Try.zeroValue9 }
open Go.RowKit in
/-- strings.IndexByte: "IndexByte returns the index of the first instance of c in s, or -1 if c is not present in s.": IT RETURNS 'Lib.indexByte s c'; the world is as it was. (LAID: no walk: one application.) -/
theorem Try.strings_IndexByte (s : ByteArray) (c : Int) (w : World) :
    Calls Try.prog 67 #[.string s, .int .u8 c] w fun e w' => e = .returned (.int .i64 (Lib.indexByte s.data.toList c.toNat.toUInt8)) ∧ w' = w := Any.strings_IndexByte Try.lays137 s c w
def Try.lays129_ren : Go.Shelf.Ren := ⟨fun | 129 => 125 | n => n, fun | 53 => 23 | 3 => 3 | 4 => 4 | 46 => 119 | 5 => 5 | 9 => 9 | n => n, fun | n => n⟩
theorem Try.lays129 : Go.Proofs.Lays.n129 Try.prog Try.lays129_ren := {
  mixed := by kernel_rfl
  f129 := Try.func125.trans (congrArg some (by kernel_rfl))
  t3 := Try.underlying3
  a3 := Try.isAgg3
  z3 := Try.sizeOf3
  v3 := Try.zeroValue3
  t4 := Try.underlying4
  a4 := Try.isAgg4
  z4 := Try.sizeOf4
  v4 := Try.zeroValue4
  t5 := Try.underlying5
  a5 := Try.isAgg5
  z5 := Try.sizeOf5
  v5 := Try.zeroValue5
  t9 := Try.underlying9
  a9 := Try.isAgg9
  z9 := Try.sizeOf9
  v9 := Try.zeroValue9
  t46 := Try.underlying119
  a46 := Try.isAgg119
  z46 := Try.sizeOf119
  v46 := Try.zeroValue119
  t53 := Try.underlying23
  a53 := Try.isAgg23
  z53 := Try.sizeOf23
  v53 := Try.zeroValue23 }
/-- bits.Len64: "Len64 returns the minimum number of bits required to represent x; the result is 0 for x == 0.": IT RETURNS 'Lib.bitLen x'; the world is as it was. ('h0', 'h1': x is a uint64.) (LAID: no walk: one application.) -/
theorem Try.bits_Len64 (x : Int) (w : World) (h0 : 0 ≤ x) (h1 : x ≤ 18446744073709551615) :
    Calls Try.prog 125 #[.int .u64 x] w fun e w' => e = .returned (.int .i64 (Lib.bitLen x.toNat)) ∧ w' = w := Any.bits_Len64 Try.lays129 x w h0 h1
def Try.lays217_ren : Go.Shelf.Ren := ⟨fun | 217 => 92 | 266 => 108 | n => n, fun | 9 => 9 | 5 => 5 | 3 => 3 | n => n, fun | n => n⟩
theorem Try.lays217 : Go.Proofs.Lays.n217 Try.prog Try.lays217_ren := {
  mixed := by kernel_rfl
  f217 := Try.func92.trans (congrArg some (by kernel_rfl))
  f266 := Try.func108.trans (congrArg some (by kernel_rfl))
  t3 := Try.underlying3
  a3 := Try.isAgg3
  z3 := Try.sizeOf3
  v3 := Try.zeroValue3
  t5 := Try.underlying5
  a5 := Try.isAgg5
  z5 := Try.sizeOf5
  v5 := Try.zeroValue5
  t9 := Try.underlying9
  a9 := Try.isAgg9
  z9 := Try.sizeOf9
  v9 := Try.zeroValue9 }
open Go.RowKit Go.Lib in
/-- internal/stringslite.IndexByte (what strings.IndexByte calls): IT RETURNS 'Lib.indexByte s c'; the world is as it was. (LAID: no walk: one application.) -/
theorem Try.stringslite_IndexByte (s : ByteArray) (c : Int) (w : World) :
    Calls Try.prog 92 #[.string s, .int .u8 c] w fun e w' => e = .returned (.int .i64 (Lib.indexByte s.data.toList c.toNat.toUInt8)) ∧ w' = w := Any.stringslite_IndexByte Try.lays217 s c w
def Try.laysSlF20_f116_ren : Go.Shelf.Ren := ⟨fun | 20 => 116 | n => n, fun | 24 => 3 | 22 => 81 | 3 => 3 | 25 => 104 | 4 => 4 | 0 => 0 | n => n, fun | n => n⟩
theorem Try.laysSlF20_f116 : Go.Proofs.SlLaysF.n20 Try.prog Try.laysSlF20_f116_ren := {
  mixed := by kernel_rfl
  f20 := ⟨Try.f116.name, by decide, Try.func116.trans (congrArg some (by kernel_rfl))⟩
  t0 := Try.underlying0
  a0 := Try.isAgg0
  z0 := Try.sizeOf0
  v0 := Try.zeroValue0
  t3 := Try.underlying3
  a3 := Try.isAgg3
  z3 := Try.sizeOf3
  v3 := Try.zeroValue3
  t4 := Try.underlying4
  a4 := Try.isAgg4
  z4 := Try.sizeOf4
  v4 := Try.zeroValue4
  t22 := Try.underlying81
  a22 := Try.isAgg81
  z22 := Try.sizeOf81
  v22 := Try.zeroValue81
  a24 := Try.isAgg3
  z24 := Try.sizeOf3
  t25 := Try.underlying104
  a25 := Try.isAgg104
  z25 := Try.sizeOf104
  v25 := Try.zeroValue104 }
open Go.RowKit Go.Lib Go.Sort in
theorem Try.insertionSortCmpFunc_one {α : Type} [Inhabited α] (enc : α → Value) (hO : OneCell enc) (cf : α → α → Int) (g : Nat) (cb : Array Value) (blk off cap a b : Nat) (d : Array α) (w : World) (eg : ∀ args w, (callFunc g args).run Try.prog w = .ok (.enter g args) w) (hcmp : CmpReads Try.prog g cb enc cf blk off d.size w) (hH : Holds enc w blk off d) (hab : a ≤ b) (hb : b ≤ d.size) (hsz : d.size < 4611686018427387904) :
    Calls Try.prog 116 #[.slice (some ⟨blk, off, none⟩) d.size cap, .int .i64 a, .int .i64 b, .func (.func g) #[] cb] w fun e w' =>
      e = .returned (.tuple #[]) ∧ ∃ n, w' = (putRow enc w blk off (Sort.insertionSort (ltOf cf) d a b)).drewN n := Any.insertionSortCmpFunc_one Try.laysSlF20_f116 enc hO cf g cb blk off cap a b d w eg hcmp hH hab hb hsz
def Try.laysSlF46_f127_ren : Go.Shelf.Ren := ⟨fun | 46 => 127 | n => n, fun | 24 => 3 | 22 => 81 | 3 => 3 | 25 => 104 | 4 => 4 | 0 => 0 | n => n, fun | n => n⟩
theorem Try.laysSlF46_f127 : Go.Proofs.SlLaysF.n46 Try.prog Try.laysSlF46_f127_ren := {
  mixed := by kernel_rfl
  f46 := ⟨Try.f127.name, by decide, Try.func127.trans (congrArg some (by kernel_rfl))⟩
  t0 := Try.underlying0
  a0 := Try.isAgg0
  z0 := Try.sizeOf0
  v0 := Try.zeroValue0
  t3 := Try.underlying3
  a3 := Try.isAgg3
  z3 := Try.sizeOf3
  v3 := Try.zeroValue3
  t4 := Try.underlying4
  a4 := Try.isAgg4
  z4 := Try.sizeOf4
  v4 := Try.zeroValue4
  t22 := Try.underlying81
  a22 := Try.isAgg81
  z22 := Try.sizeOf81
  v22 := Try.zeroValue81
  a24 := Try.isAgg3
  z24 := Try.sizeOf3
  t25 := Try.underlying104
  a25 := Try.isAgg104
  z25 := Try.sizeOf104
  v25 := Try.zeroValue104 }
open Go.RowKit Go.Lib Go.Sort in
/-- slices.siftDownCmpFunc at elements of one cell: from a world of the sort's to a world of the sort's. (LAID AT THE INSTANCE 'slices.siftDownCmpFunc[int]': no walk: one application.) -/
theorem Try.siftDownCmpFunc {α : Type} [Inhabited α] (enc : α → Value) (cf : α → α → Int) (g : Nat) (cb : Array Value) (blk off cap lo hi first : Nat) (d0 d : Array α) (w0 w : World) (eg : ∀ args w, (callFunc g args).run Try.prog w = .ok (.enter g args) w) (hcmp : CmpLays1 Try.prog g cb enc cf blk off d0.size w0) (R : Row1 enc w0 blk off d0) (hs : d0.size = d.size) (S : SW enc w0 blk off d w) (hlo : lo ≤ hi) (hb : first + hi ≤ d.size) (hsz : d.size < 4611686018427387904) :
    Calls Try.prog 127 #[.slice (some ⟨blk, off, none⟩) d.size cap, .int .i64 lo, .int .i64 hi, .int .i64 first, .func (.func g) #[] cb] w fun e w' =>
      e = .returned (.tuple #[]) ∧ SW enc w0 blk off (siftDown (ltOf cf) hi first lo d) w' := Any.siftDownCmpFunc Try.laysSlF46_f127 enc cf g cb blk off cap lo hi first d0 d w0 w eg hcmp R hs S hlo hb hsz
def Try.laysSlF21_f117_ren : Go.Shelf.Ren := ⟨fun | 21 => 117 | 46 => 127 | n => n, fun | 24 => 3 | 22 => 81 | 3 => 3 | 25 => 104 | 4 => 4 | 0 => 0 | n => n, fun | n => n⟩
theorem Try.laysSlF21_f117 : Go.Proofs.SlLaysF.n21 Try.prog Try.laysSlF21_f117_ren := {
  mixed := by kernel_rfl
  f21 := ⟨Try.f117.name, by decide, Try.func117.trans (congrArg some (by kernel_rfl))⟩
  f46 := ⟨Try.f127.name, by decide, Try.func127.trans (congrArg some (by kernel_rfl))⟩
  t0 := Try.underlying0
  a0 := Try.isAgg0
  z0 := Try.sizeOf0
  v0 := Try.zeroValue0
  t3 := Try.underlying3
  a3 := Try.isAgg3
  z3 := Try.sizeOf3
  v3 := Try.zeroValue3
  t4 := Try.underlying4
  a4 := Try.isAgg4
  z4 := Try.sizeOf4
  v4 := Try.zeroValue4
  t22 := Try.underlying81
  a22 := Try.isAgg81
  z22 := Try.sizeOf81
  v22 := Try.zeroValue81
  a24 := Try.isAgg3
  z24 := Try.sizeOf3
  t25 := Try.underlying104
  a25 := Try.isAgg104
  z25 := Try.sizeOf104
  v25 := Try.zeroValue104 }
open Go.RowKit Go.Lib Go.Sort in
/-- slices.heapSortCmpFunc at elements of one cell. (LAID AT THE INSTANCE 'slices.heapSortCmpFunc[int]': no walk: one application.) -/
theorem Try.heapSortCmpFunc {α : Type} [Inhabited α] (enc : α → Value) (cf : α → α → Int) (g : Nat) (cb : Array Value) (blk off cap a b : Nat) (d0 d : Array α) (w0 w : World) (eg : ∀ args w, (callFunc g args).run Try.prog w = .ok (.enter g args) w) (hcmp : CmpLays1 Try.prog g cb enc cf blk off d0.size w0) (R : Row1 enc w0 blk off d0) (hs : d0.size = d.size) (S : SW enc w0 blk off d w) (hab : a ≤ b) (hb : b ≤ d.size) (hsz : d.size < 4611686018427387904) :
    Calls Try.prog 117 #[.slice (some ⟨blk, off, none⟩) d.size cap, .int .i64 a, .int .i64 b, .func (.func g) #[] cb] w fun e w' =>
      e = .returned (.tuple #[]) ∧ SW enc w0 blk off (heapSort (ltOf cf) d a b) w' := Any.heapSortCmpFunc Try.laysSlF21_f117 enc cf g cb blk off cap a b d0 d w0 w eg hcmp R hs S hab hb hsz
open Go.RowKit Go.Lib Go.Sort in
/-- slices.insertionSortCmpFunc at elements of one cell: from a world of the sort's to a world of the sort's. (LAID AT THE INSTANCE 'slices.insertionSortCmpFunc[int]': no walk: one application.) -/
theorem Try.insertionSortCmpFunc_s {α : Type} [Inhabited α] (enc : α → Value) (cf : α → α → Int) (g : Nat) (cb : Array Value) (blk off cap a b : Nat) (d0 d : Array α) (w0 w : World) (eg : ∀ args w, (callFunc g args).run Try.prog w = .ok (.enter g args) w) (hcmp : CmpLays1 Try.prog g cb enc cf blk off d0.size w0) (R : Row1 enc w0 blk off d0) (hs : d0.size = d.size) (S : SW enc w0 blk off d w) (hab : a ≤ b) (hb : b ≤ d.size) (hsz : d.size < 4611686018427387904) :
    Calls Try.prog 116 #[.slice (some ⟨blk, off, none⟩) d.size cap, .int .i64 a, .int .i64 b, .func (.func g) #[] cb] w fun e w' => e = .returned (.tuple #[]) ∧ SW enc w0 blk off (Sort.insertionSort (ltOf cf) d a b) w' := Any.insertionSortCmpFunc_s Try.laysSlF20_f116 enc cf g cb blk off cap a b d0 d w0 w eg hcmp R hs S hab hb hsz
def Try.laysSlF57_f132_ren : Go.Shelf.Ren := ⟨fun | 57 => 132 | n => n, fun | 24 => 3 | 22 => 81 | 3 => 3 | 70 => 134 | 25 => 104 | 0 => 0 | 4 => 4 | n => n, fun | n => n⟩
theorem Try.laysSlF57_f132 : Go.Proofs.SlLaysF.n57 Try.prog Try.laysSlF57_f132_ren := {
  mixed := by kernel_rfl
  f57 := ⟨Try.f132.name, by decide, Try.func132.trans (congrArg some (by kernel_rfl))⟩
  t0 := Try.underlying0
  a0 := Try.isAgg0
  z0 := Try.sizeOf0
  v0 := Try.zeroValue0
  t3 := Try.underlying3
  a3 := Try.isAgg3
  z3 := Try.sizeOf3
  v3 := Try.zeroValue3
  t4 := Try.underlying4
  a4 := Try.isAgg4
  z4 := Try.sizeOf4
  v4 := Try.zeroValue4
  t22 := Try.underlying81
  a22 := Try.isAgg81
  z22 := Try.sizeOf81
  v22 := Try.zeroValue81
  a24 := Try.isAgg3
  z24 := Try.sizeOf3
  t25 := Try.underlying104
  a25 := Try.isAgg104
  z25 := Try.sizeOf104
  v25 := Try.zeroValue104
  t70 := Try.underlying134
  a70 := Try.isAgg134
  z70 := Try.sizeOf134
  v70 := Try.zeroValue134 }
open Go.RowKit Go.Lib Go.Sort in
/-- slices.order2CmpFunc at elements of one cell. (LAID AT THE INSTANCE 'slices.order2CmpFunc[int]': no walk: one application.) -/
theorem Try.order2CmpFunc {α : Type} [Inhabited α] (enc : α → Value) (cf : α → α → Int) (g : Nat) (cb : Array Value) (blk off cap a b c s : Nat) (d0 d : Array α) (w0 W : World) (eg : ∀ args w, (callFunc g args).run Try.prog w = .ok (.enter g args) w) (hcmp : CmpLays1 Try.prog g cb enc cf blk off d0.size w0) (R : Row1 enc w0 blk off d0) (hs : d0.size = d.size) (C : Cnt1 enc w0 blk off d c s W) (ha : a < d.size) (hb : b < d.size) (hsz : d.size < 4611686018427387904) (hss : s < 4611686018427387904) :
    Calls Try.prog 132 #[.slice (some ⟨blk, off, none⟩) d.size cap, .int .i64 a, .int .i64 b, .pointer (some ⟨c, 0, none⟩), .func (.func g) #[] cb] W fun e w' =>
      e = .returned (.tuple #[.int .i64 (order2 (ltOf cf) d a b s).1, .int .i64 (order2 (ltOf cf) d a b s).2.1]) ∧ Cnt1 enc w0 blk off d c (order2 (ltOf cf) d a b s).2.2 w' := Any.order2CmpFunc Try.laysSlF57_f132 enc cf g cb blk off cap a b c s d0 d w0 W eg hcmp R hs C ha hb hsz hss
def Try.laysSlF50_f131_ren : Go.Shelf.Ren := ⟨fun | 50 => 131 | 57 => 132 | n => n, fun | 24 => 3 | 22 => 81 | 3 => 3 | 70 => 134 | 25 => 104 | 77 => 90 | 0 => 0 | 4 => 4 | n => n, fun | n => n⟩
theorem Try.laysSlF50_f131 : Go.Proofs.SlLaysF.n50 Try.prog Try.laysSlF50_f131_ren := {
  mixed := by kernel_rfl
  f50 := ⟨Try.f131.name, by decide, Try.func131.trans (congrArg some (by kernel_rfl))⟩
  f57 := ⟨Try.f132.name, by decide, Try.func132.trans (congrArg some (by kernel_rfl))⟩
  t0 := Try.underlying0
  a0 := Try.isAgg0
  z0 := Try.sizeOf0
  v0 := Try.zeroValue0
  t3 := Try.underlying3
  a3 := Try.isAgg3
  z3 := Try.sizeOf3
  v3 := Try.zeroValue3
  t4 := Try.underlying4
  a4 := Try.isAgg4
  z4 := Try.sizeOf4
  v4 := Try.zeroValue4
  t22 := Try.underlying81
  a22 := Try.isAgg81
  z22 := Try.sizeOf81
  v22 := Try.zeroValue81
  a24 := Try.isAgg3
  z24 := Try.sizeOf3
  t25 := Try.underlying104
  a25 := Try.isAgg104
  z25 := Try.sizeOf104
  v25 := Try.zeroValue104
  t70 := Try.underlying134
  a70 := Try.isAgg134
  z70 := Try.sizeOf134
  v70 := Try.zeroValue134
  t77 := Try.underlying90
  a77 := Try.isAgg90
  z77 := Try.sizeOf90
  v77 := Try.zeroValue90 }
open Go.RowKit Go.Lib Go.Sort in
/-- slices.medianCmpFunc at elements of one cell. (LAID AT THE INSTANCE 'slices.medianCmpFunc[int]': no walk: one application.) -/
theorem Try.medianCmpFunc {α : Type} [Inhabited α] (enc : α → Value) (cf : α → α → Int) (g : Nat) (cb : Array Value) (blk off cap a b c' c s : Nat) (d0 d : Array α) (w0 W : World) (eg : ∀ args w, (callFunc g args).run Try.prog w = .ok (.enter g args) w) (hcmp : CmpLays1 Try.prog g cb enc cf blk off d0.size w0) (R : Row1 enc w0 blk off d0) (hs : d0.size = d.size) (C : Cnt1 enc w0 blk off d c s W) (ha : a < d.size) (hb : b < d.size) (hc : c' < d.size) (hsz : d.size < 4611686018427387904) (hss : s + 3 < 4611686018427387904) :
    Calls Try.prog 131 #[.slice (some ⟨blk, off, none⟩) d.size cap, .int .i64 a, .int .i64 b, .int .i64 c', .pointer (some ⟨c, 0, none⟩), .func (.func g) #[] cb] W fun e w' =>
      e = .returned (.int .i64 (median (ltOf cf) d a b c' s).1) ∧ Cnt1 enc w0 blk off d c (median (ltOf cf) d a b c' s).2 w' := Any.medianCmpFunc Try.laysSlF50_f131 enc cf g cb blk off cap a b c' c s d0 d w0 W eg hcmp R hs C ha hb hc hsz hss
def Try.laysSlF49_f130_ren : Go.Shelf.Ren := ⟨fun | 49 => 130 | 50 => 131 | 57 => 132 | n => n, fun | 24 => 3 | 22 => 81 | 3 => 3 | 70 => 134 | 25 => 104 | 77 => 90 | 0 => 0 | 4 => 4 | n => n, fun | n => n⟩
theorem Try.laysSlF49_f130 : Go.Proofs.SlLaysF.n49 Try.prog Try.laysSlF49_f130_ren := {
  mixed := by kernel_rfl
  f49 := ⟨Try.f130.name, by decide, Try.func130.trans (congrArg some (by kernel_rfl))⟩
  f50 := ⟨Try.f131.name, by decide, Try.func131.trans (congrArg some (by kernel_rfl))⟩
  f57 := ⟨Try.f132.name, by decide, Try.func132.trans (congrArg some (by kernel_rfl))⟩
  t0 := Try.underlying0
  a0 := Try.isAgg0
  z0 := Try.sizeOf0
  v0 := Try.zeroValue0
  t3 := Try.underlying3
  a3 := Try.isAgg3
  z3 := Try.sizeOf3
  v3 := Try.zeroValue3
  t4 := Try.underlying4
  a4 := Try.isAgg4
  z4 := Try.sizeOf4
  v4 := Try.zeroValue4
  t22 := Try.underlying81
  a22 := Try.isAgg81
  z22 := Try.sizeOf81
  v22 := Try.zeroValue81
  a24 := Try.isAgg3
  z24 := Try.sizeOf3
  t25 := Try.underlying104
  a25 := Try.isAgg104
  z25 := Try.sizeOf104
  v25 := Try.zeroValue104
  t70 := Try.underlying134
  a70 := Try.isAgg134
  z70 := Try.sizeOf134
  v70 := Try.zeroValue134
  t77 := Try.underlying90
  a77 := Try.isAgg90
  z77 := Try.sizeOf90
  v77 := Try.zeroValue90 }
open Go.RowKit Go.Lib Go.Sort in
/-- slices.medianAdjacentCmpFunc at elements of one cell. (LAID AT THE INSTANCE 'slices.medianAdjacentCmpFunc[int]': no walk: one application.) -/
theorem Try.medianAdjacentCmpFunc {α : Type} [Inhabited α] (enc : α → Value) (cf : α → α → Int) (g : Nat) (cb : Array Value) (blk off cap a c s : Nat) (d0 d : Array α) (w0 W : World) (eg : ∀ args w, (callFunc g args).run Try.prog w = .ok (.enter g args) w) (hcmp : CmpLays1 Try.prog g cb enc cf blk off d0.size w0) (R : Row1 enc w0 blk off d0) (hs : d0.size = d.size) (C : Cnt1 enc w0 blk off d c s W) (ha1 : 1 ≤ a) (ha2 : a + 1 < d.size) (hsz : d.size < 4611686018427387904) (hss : s + 3 < 4611686018427387904) :
    Calls Try.prog 130 #[.slice (some ⟨blk, off, none⟩) d.size cap, .int .i64 a, .pointer (some ⟨c, 0, none⟩), .func (.func g) #[] cb] W fun e w' =>
      e = .returned (.int .i64 (medianAdjacent (ltOf cf) d a s).1) ∧ Cnt1 enc w0 blk off d c (medianAdjacent (ltOf cf) d a s).2 w' := Any.medianAdjacentCmpFunc Try.laysSlF49_f130 enc cf g cb blk off cap a c s d0 d w0 W eg hcmp R hs C ha1 ha2 hsz hss
def Try.laysSlF23_f119_ren : Go.Shelf.Ren := ⟨fun | 23 => 119 | 49 => 130 | 50 => 131 | 57 => 132 | n => n, fun | 24 => 3 | 22 => 81 | 3 => 3 | 25 => 104 | 45 => 121 | 0 => 0 | 4 => 4 | 70 => 134 | 77 => 90 | n => n, fun | n => n⟩
theorem Try.laysSlF23_f119 : Go.Proofs.SlLaysF.n23 Try.prog Try.laysSlF23_f119_ren := {
  mixed := by kernel_rfl
  f23 := ⟨Try.f119.name, by decide, Try.func119.trans (congrArg some (by kernel_rfl))⟩
  f49 := ⟨Try.f130.name, by decide, Try.func130.trans (congrArg some (by kernel_rfl))⟩
  f50 := ⟨Try.f131.name, by decide, Try.func131.trans (congrArg some (by kernel_rfl))⟩
  f57 := ⟨Try.f132.name, by decide, Try.func132.trans (congrArg some (by kernel_rfl))⟩
  t0 := Try.underlying0
  a0 := Try.isAgg0
  z0 := Try.sizeOf0
  v0 := Try.zeroValue0
  t3 := Try.underlying3
  a3 := Try.isAgg3
  z3 := Try.sizeOf3
  v3 := Try.zeroValue3
  t4 := Try.underlying4
  a4 := Try.isAgg4
  z4 := Try.sizeOf4
  v4 := Try.zeroValue4
  t22 := Try.underlying81
  a22 := Try.isAgg81
  z22 := Try.sizeOf81
  v22 := Try.zeroValue81
  a24 := Try.isAgg3
  z24 := Try.sizeOf3
  t25 := Try.underlying104
  a25 := Try.isAgg104
  z25 := Try.sizeOf104
  v25 := Try.zeroValue104
  t45 := Try.underlying121
  a45 := Try.isAgg121
  z45 := Try.sizeOf121
  v45 := Try.zeroValue121
  t70 := Try.underlying134
  a70 := Try.isAgg134
  z70 := Try.sizeOf134
  v70 := Try.zeroValue134
  t77 := Try.underlying90
  a77 := Try.isAgg90
  z77 := Try.sizeOf90
  v77 := Try.zeroValue90 }
open Go.RowKit Go.Lib Go.Sort in
/-- slices.choosePivotCmpFunc at elements of one cell: THE LIBRARY's OWN TEXT COMPUTES 'Sort.choosePivot (ltOf cf) d a b'; the row is not turned. (After Derived/Shelf/SlSortFuncK/PivotK.lean, row for row; the counter's world by 'CntK'.) (LAID AT THE INSTANCE 'slices.choosePivotCmpFunc[int]': no walk: one application.) -/
theorem Try.choosePivotCmpFunc {α : Type} [Inhabited α] (enc : α → Value) (cf : α → α → Int) (g : Nat) (cb : Array Value) (blk off cap a b : Nat) (d0 d : Array α) (w0 W : World) (eg : ∀ args w, (callFunc g args).run Try.prog w = .ok (.enter g args) w) (hcmp : CmpLays1 Try.prog g cb enc cf blk off d0.size w0) (R : Row1 enc w0 blk off d0) (hs : d0.size = d.size) (S : SW enc w0 blk off d W) (hab : a < b) (hb : b ≤ d.size) (hsz : d.size < 4611686018427387904) :
    Calls Try.prog 119 #[.slice (some ⟨blk, off, none⟩) d.size cap, .int .i64 a, .int .i64 b, .func (.func g) #[] cb] W fun e w' =>
      e = .returned (.tuple #[.int .i64 (choosePivot (ltOf cf) d a b).1, .int .i64 (hintCode (choosePivot (ltOf cf) d a b).2)]) ∧ SW enc w0 blk off d w' := Any.choosePivotCmpFunc Try.laysSlF23_f119 enc cf g cb blk off cap a b d0 d w0 W eg hcmp R hs S hab hb hsz
def Try.laysSlF24_f120_ren : Go.Shelf.Ren := ⟨fun | 24 => 120 | n => n, fun | 24 => 3 | 22 => 81 | 3 => 3 | 25 => 104 | 4 => 4 | 0 => 0 | n => n, fun | n => n⟩
theorem Try.laysSlF24_f120 : Go.Proofs.SlLaysF.n24 Try.prog Try.laysSlF24_f120_ren := {
  mixed := by kernel_rfl
  f24 := ⟨Try.f120.name, by decide, Try.func120.trans (congrArg some (by kernel_rfl))⟩
  t0 := Try.underlying0
  a0 := Try.isAgg0
  z0 := Try.sizeOf0
  v0 := Try.zeroValue0
  t3 := Try.underlying3
  a3 := Try.isAgg3
  z3 := Try.sizeOf3
  v3 := Try.zeroValue3
  t4 := Try.underlying4
  a4 := Try.isAgg4
  z4 := Try.sizeOf4
  v4 := Try.zeroValue4
  t22 := Try.underlying81
  a22 := Try.isAgg81
  z22 := Try.sizeOf81
  v22 := Try.zeroValue81
  a24 := Try.isAgg3
  z24 := Try.sizeOf3
  t25 := Try.underlying104
  a25 := Try.isAgg104
  z25 := Try.sizeOf104
  v25 := Try.zeroValue104 }
open Go.RowKit Go.Lib Go.Sort in
/-- slices.reverseRangeCmpFunc at elements of one cell: it exchanges and does not compare. (LAID AT THE INSTANCE 'slices.reverseRangeCmpFunc[int]': no walk: one application.) -/
theorem Try.reverseRangeCmpFunc {α : Type} [Inhabited α] (enc : α → Value) (g : Nat) (cb : Array Value) (blk off cap a b : Nat) (d0 d : Array α) (w0 w : World) (R : Row1 enc w0 blk off d0) (hs : d0.size = d.size) (S : SW enc w0 blk off d w) (hab : a ≤ b) (hb : b ≤ d.size) (hsz : d.size < 4611686018427387904) :
    Calls Try.prog 120 #[.slice (some ⟨blk, off, none⟩) d.size cap, .int .i64 a, .int .i64 b, .func (.func g) #[] cb] w fun e w' => e = .returned (.tuple #[]) ∧ SW enc w0 blk off (reverseRange d a b) w' := Any.reverseRangeCmpFunc Try.laysSlF24_f120 enc g cb blk off cap a b d0 d w0 w R hs S hab hb hsz
def Try.laysSlF25_f121_ren : Go.Shelf.Ren := ⟨fun | 25 => 121 | n => n, fun | 24 => 3 | 22 => 81 | 3 => 3 | 25 => 104 | 4 => 4 | 0 => 0 | n => n, fun | n => n⟩
theorem Try.laysSlF25_f121 : Go.Proofs.SlLaysF.n25 Try.prog Try.laysSlF25_f121_ren := {
  mixed := by kernel_rfl
  f25 := ⟨Try.f121.name, by decide, Try.func121.trans (congrArg some (by kernel_rfl))⟩
  t0 := Try.underlying0
  a0 := Try.isAgg0
  z0 := Try.sizeOf0
  v0 := Try.zeroValue0
  t3 := Try.underlying3
  a3 := Try.isAgg3
  z3 := Try.sizeOf3
  v3 := Try.zeroValue3
  t4 := Try.underlying4
  a4 := Try.isAgg4
  z4 := Try.sizeOf4
  v4 := Try.zeroValue4
  t22 := Try.underlying81
  a22 := Try.isAgg81
  z22 := Try.sizeOf81
  v22 := Try.zeroValue81
  a24 := Try.isAgg3
  z24 := Try.sizeOf3
  t25 := Try.underlying104
  a25 := Try.isAgg104
  z25 := Try.sizeOf104
  v25 := Try.zeroValue104 }
open Go.RowKit Go.Lib Go.Sort in
/-- slices.partialInsertionSortCmpFunc at elements of one cell. (LAID AT THE INSTANCE 'slices.partialInsertionSortCmpFunc[int]': no walk: one application.) -/
theorem Try.partialInsertionSortCmpFunc {α : Type} [Inhabited α] (enc : α → Value) (cf : α → α → Int) (g : Nat) (cb : Array Value) (blk off cap a b : Nat) (d0 d : Array α) (w0 w : World) (eg : ∀ args w, (callFunc g args).run Try.prog w = .ok (.enter g args) w) (hcmp : CmpLays1 Try.prog g cb enc cf blk off d0.size w0) (R : Row1 enc w0 blk off d0) (hs : d0.size = d.size) (S : SW enc w0 blk off d w) (hab : a < b) (hb : b ≤ d.size) (hsz : d.size < 4611686018427387904) :
    Calls Try.prog 121 #[.slice (some ⟨blk, off, none⟩) d.size cap, .int .i64 a, .int .i64 b, .func (.func g) #[] cb] w fun e w' =>
      e = .returned (.bool (Sort.partialInsertionSort (ltOf cf) d a b).2) ∧ SW enc w0 blk off (Sort.partialInsertionSort (ltOf cf) d a b).1 w' := Any.partialInsertionSortCmpFunc Try.laysSlF25_f121 enc cf g cb blk off cap a b d0 d w0 w eg hcmp R hs S hab hb hsz
def Try.laysSlF26_f122_ren : Go.Shelf.Ren := ⟨fun | 26 => 122 | n => n, fun | 24 => 3 | 22 => 81 | 3 => 3 | 25 => 104 | 0 => 0 | 4 => 4 | n => n, fun | n => n⟩
theorem Try.laysSlF26_f122 : Go.Proofs.SlLaysF.n26 Try.prog Try.laysSlF26_f122_ren := {
  mixed := by kernel_rfl
  f26 := ⟨Try.f122.name, by decide, Try.func122.trans (congrArg some (by kernel_rfl))⟩
  t0 := Try.underlying0
  a0 := Try.isAgg0
  z0 := Try.sizeOf0
  v0 := Try.zeroValue0
  t3 := Try.underlying3
  a3 := Try.isAgg3
  z3 := Try.sizeOf3
  v3 := Try.zeroValue3
  t4 := Try.underlying4
  a4 := Try.isAgg4
  z4 := Try.sizeOf4
  v4 := Try.zeroValue4
  t22 := Try.underlying81
  a22 := Try.isAgg81
  z22 := Try.sizeOf81
  v22 := Try.zeroValue81
  a24 := Try.isAgg3
  z24 := Try.sizeOf3
  t25 := Try.underlying104
  a25 := Try.isAgg104
  z25 := Try.sizeOf104
  v25 := Try.zeroValue104 }
open Go.RowKit Go.Lib Go.Sort in
/-- slices.partitionEqualCmpFunc at elements of one cell. (After Derived/Shelf/SlSortFuncK/PartitionK.lean, row for row.) (LAID AT THE INSTANCE 'slices.partitionEqualCmpFunc[int]': no walk: one application.) -/
theorem Try.partitionEqualCmpFunc {α : Type} [Inhabited α] (enc : α → Value) (cf : α → α → Int) (g : Nat) (cb : Array Value) (blk off cap a b pivot : Nat) (d0 d : Array α) (w0 w : World) (eg : ∀ args w, (callFunc g args).run Try.prog w = .ok (.enter g args) w) (hcmp : CmpLays1 Try.prog g cb enc cf blk off d0.size w0) (R : Row1 enc w0 blk off d0) (hs : d0.size = d.size) (S : SW enc w0 blk off d w) (hap : a ≤ pivot) (hpb : pivot < b) (hb : b ≤ d.size) (hsz : d.size < 4611686018427387904) :
    Calls Try.prog 122 #[.slice (some ⟨blk, off, none⟩) d.size cap, .int .i64 a, .int .i64 b, .int .i64 pivot, .func (.func g) #[] cb] w fun e w' =>
      e = .returned (.int .i64 (Sort.partitionEqual (ltOf cf) d a b pivot).1) ∧ SW enc w0 blk off (Sort.partitionEqual (ltOf cf) d a b pivot).2 w' := Any.partitionEqualCmpFunc Try.laysSlF26_f122 enc cf g cb blk off cap a b pivot d0 d w0 w eg hcmp R hs S hap hpb hb hsz
def Try.laysSlF27_f123_ren : Go.Shelf.Ren := ⟨fun | 27 => 123 | n => n, fun | 24 => 3 | 22 => 81 | 3 => 3 | 25 => 104 | 4 => 4 | 0 => 0 | n => n, fun | n => n⟩
theorem Try.laysSlF27_f123 : Go.Proofs.SlLaysF.n27 Try.prog Try.laysSlF27_f123_ren := {
  mixed := by kernel_rfl
  f27 := ⟨Try.f123.name, by decide, Try.func123.trans (congrArg some (by kernel_rfl))⟩
  t0 := Try.underlying0
  a0 := Try.isAgg0
  z0 := Try.sizeOf0
  v0 := Try.zeroValue0
  t3 := Try.underlying3
  a3 := Try.isAgg3
  z3 := Try.sizeOf3
  v3 := Try.zeroValue3
  t4 := Try.underlying4
  a4 := Try.isAgg4
  z4 := Try.sizeOf4
  v4 := Try.zeroValue4
  t22 := Try.underlying81
  a22 := Try.isAgg81
  z22 := Try.sizeOf81
  v22 := Try.zeroValue81
  a24 := Try.isAgg3
  z24 := Try.sizeOf3
  t25 := Try.underlying104
  a25 := Try.isAgg104
  z25 := Try.sizeOf104
  v25 := Try.zeroValue104 }
open Go.RowKit Go.Lib Go.Sort in
/-- slices.partitionCmpFunc at elements of one cell. (After Derived/Shelf/SlSortFuncK/PartitionK.lean, row for row.) (LAID AT THE INSTANCE 'slices.partitionCmpFunc[int]': no walk: one application.) -/
theorem Try.partitionCmpFunc {α : Type} [Inhabited α] (enc : α → Value) (cf : α → α → Int) (g : Nat) (cb : Array Value) (blk off cap a b pivot : Nat) (d0 d : Array α) (w0 w : World) (eg : ∀ args w, (callFunc g args).run Try.prog w = .ok (.enter g args) w) (hcmp : CmpLays1 Try.prog g cb enc cf blk off d0.size w0) (R : Row1 enc w0 blk off d0) (hs : d0.size = d.size) (S : SW enc w0 blk off d w) (hap : a ≤ pivot) (hpb : pivot < b) (hb : b ≤ d.size) (hsz : d.size < 4611686018427387904) :
    Calls Try.prog 123 #[.slice (some ⟨blk, off, none⟩) d.size cap, .int .i64 a, .int .i64 b, .int .i64 pivot, .func (.func g) #[] cb] w fun e w' =>
      e = .returned (.tuple #[.int .i64 (Sort.partition (ltOf cf) d a b pivot).1, .bool (Sort.partition (ltOf cf) d a b pivot).2.1]) ∧ SW enc w0 blk off (Sort.partition (ltOf cf) d a b pivot).2.2 w' := Any.partitionCmpFunc Try.laysSlF27_f123 enc cf g cb blk off cap a b pivot d0 d w0 w eg hcmp R hs S hap hpb hb hsz
def Try.laysSlF14_f109_ren : Go.Shelf.Ren := ⟨fun | 14 => 109 | 20 => 116 | 21 => 117 | 22 => 118 | 23 => 119 | 24 => 120 | 25 => 121 | 26 => 122 | 27 => 123 | 46 => 127 | 47 => 128 | 48 => 129 | 49 => 130 | 50 => 131 | 15 => 110 | 57 => 132 | 28 => 124 | 29 => 125 | n => n, fun | 24 => 3 | 22 => 81 | 3 => 3 | 25 => 104 | 4 => 4 | 0 => 0 | 46 => 122 | 45 => 121 | 50 => 70 | 66 => 130 | 39 => 119 | 55 => 23 | 70 => 134 | 76 => 136 | 77 => 90 | 53 => 128 | 5 => 5 | 9 => 9 | n => n, fun | n => n⟩
theorem Try.laysSlF14_f109 : Go.Proofs.SlLaysF.n14 Try.prog Try.laysSlF14_f109_ren := {
  mixed := by kernel_rfl
  f14 := ⟨Try.f109.name, by decide, Try.func109.trans (congrArg some (by kernel_rfl))⟩
  f15 := Try.func110.trans (congrArg some (by kernel_rfl))
  f20 := ⟨Try.f116.name, by decide, Try.func116.trans (congrArg some (by kernel_rfl))⟩
  f21 := ⟨Try.f117.name, by decide, Try.func117.trans (congrArg some (by kernel_rfl))⟩
  f22 := ⟨Try.f118.name, by decide, Try.func118.trans (congrArg some (by kernel_rfl))⟩
  f23 := ⟨Try.f119.name, by decide, Try.func119.trans (congrArg some (by kernel_rfl))⟩
  f24 := ⟨Try.f120.name, by decide, Try.func120.trans (congrArg some (by kernel_rfl))⟩
  f25 := ⟨Try.f121.name, by decide, Try.func121.trans (congrArg some (by kernel_rfl))⟩
  f26 := ⟨Try.f122.name, by decide, Try.func122.trans (congrArg some (by kernel_rfl))⟩
  f27 := ⟨Try.f123.name, by decide, Try.func123.trans (congrArg some (by kernel_rfl))⟩
  f28 := Try.func124.trans (congrArg some (by kernel_rfl))
  f29 := Try.func125.trans (congrArg some (by kernel_rfl))
  f46 := ⟨Try.f127.name, by decide, Try.func127.trans (congrArg some (by kernel_rfl))⟩
  f47 := Try.func128.trans (congrArg some (by kernel_rfl))
  f48 := Try.func129.trans (congrArg some (by kernel_rfl))
  f49 := ⟨Try.f130.name, by decide, Try.func130.trans (congrArg some (by kernel_rfl))⟩
  f50 := ⟨Try.f131.name, by decide, Try.func131.trans (congrArg some (by kernel_rfl))⟩
  f57 := ⟨Try.f132.name, by decide, Try.func132.trans (congrArg some (by kernel_rfl))⟩
  t0 := Try.underlying0
  a0 := Try.isAgg0
  z0 := Try.sizeOf0
  v0 := Try.zeroValue0
  t3 := Try.underlying3
  a3 := Try.isAgg3
  z3 := Try.sizeOf3
  v3 := Try.zeroValue3
  t4 := Try.underlying4
  a4 := Try.isAgg4
  z4 := Try.sizeOf4
  v4 := Try.zeroValue4
  t5 := Try.underlying5
  a5 := Try.isAgg5
  z5 := Try.sizeOf5
  v5 := Try.zeroValue5
  t9 := Try.underlying9
  a9 := Try.isAgg9
  z9 := Try.sizeOf9
  v9 := Try.zeroValue9
  t22 := Try.underlying81
  a22 := Try.isAgg81
  z22 := Try.sizeOf81
  v22 := Try.zeroValue81
  a24 := Try.isAgg3
  z24 := Try.sizeOf3
  t25 := Try.underlying104
  a25 := Try.isAgg104
  z25 := Try.sizeOf104
  v25 := Try.zeroValue104
  t39 := Try.underlying119
  a39 := Try.isAgg119
  z39 := Try.sizeOf119
  v39 := Try.zeroValue119
  t45 := Try.underlying121
  a45 := Try.isAgg121
  z45 := Try.sizeOf121
  v45 := Try.zeroValue121
  t46 := Try.underlying122
  a46 := Try.isAgg122
  z46 := Try.sizeOf122
  v46 := Try.zeroValue122
  t50 := Try.underlying70
  a50 := Try.isAgg70
  z50 := Try.sizeOf70
  v50 := Try.zeroValue70
  t53 := Try.underlying128
  a53 := Try.isAgg128
  z53 := Try.sizeOf128
  v53 := Try.zeroValue128
  t55 := Try.underlying23
  a55 := Try.isAgg23
  z55 := Try.sizeOf23
  v55 := Try.zeroValue23
  t66 := Try.underlying130
  a66 := Try.isAgg130
  z66 := Try.sizeOf130
  v66 := Try.zeroValue130
  t70 := Try.underlying134
  a70 := Try.isAgg134
  z70 := Try.sizeOf134
  v70 := Try.zeroValue134
  t76 := Try.underlying136
  a76 := Try.isAgg136
  z76 := Try.sizeOf136
  v76 := Try.zeroValue136
  t77 := Try.underlying90
  a77 := Try.isAgg90
  z77 := Try.sizeOf90
  v77 := Try.zeroValue90 }
open Go.RowKit Go.Lib Go.Sort in
/-- slices.pdqsortCmpFunc at elements of one cell, WHOLE. (After Derived/Shelf/SlSortFuncK/PdqK.lean, row for row: the slots and the regions' numbers are this body's.) (LAID AT THE INSTANCE 'slices.pdqsortCmpFunc[int]': no walk: one application.) -/
theorem Try.pdqsortCmpFunc_all {α : Type} [Inhabited α] (enc : α → Value) (cf : α → α → Int) (g : Nat) (cb : Array Value) (hO : SWO (ltOf cf)) (blk off cap : Nat) (d0 : Array α) (w0 : World) (eg : ∀ args w, (callFunc g args).run Try.prog w = .ok (.enter g args) w) (hcmp : CmpLays1 Try.prog g cb enc cf blk off d0.size w0) (R : Row1 enc w0 blk off d0) :
    ∀ (N a b limit : Nat) (d : Array α) (w : World), b - a < N → d0.size = d.size → SW enc w0 blk off d w → a ≤ b → b ≤ d.size → d.size < 4611686018427387904 → limit < 4611686018427387904 → Below (ltOf cf) a b d →
    Calls Try.prog 109 #[.slice (some ⟨blk, off, none⟩) d.size cap, .int .i64 a, .int .i64 b, .int .i64 limit, .func (.func g) #[] cb] w fun e w' => e = .returned (.tuple #[]) ∧ SW enc w0 blk off (pdq (ltOf cf) d a b limit true true) w' := Any.pdqsortCmpFunc_all Try.laysSlF14_f109 enc cf g cb hO blk off cap d0 w0 eg hcmp R
def Try.laysSlF6_f93_ren : Go.Shelf.Ren := ⟨fun | 6 => 93 | 15 => 110 | 14 => 109 | 28 => 124 | 29 => 125 | 20 => 116 | 21 => 117 | 22 => 118 | 23 => 119 | 24 => 120 | 25 => 121 | 26 => 122 | 27 => 123 | 46 => 127 | 47 => 128 | 48 => 129 | 49 => 130 | 50 => 131 | 57 => 132 | n => n, fun | 22 => 81 | 24 => 3 | 25 => 104 | 3 => 3 | 39 => 119 | 0 => 0 | 53 => 128 | 55 => 23 | 4 => 4 | 46 => 122 | 45 => 121 | 50 => 70 | 5 => 5 | 9 => 9 | 66 => 130 | 70 => 134 | 76 => 136 | 77 => 90 | n => n, fun | n => n⟩
theorem Try.laysSlF6_f93 : Go.Proofs.SlLaysF.n6 Try.prog Try.laysSlF6_f93_ren := {
  mixed := by kernel_rfl
  f6 := ⟨Try.f93.name, by decide, Try.func93.trans (congrArg some (by kernel_rfl))⟩
  f14 := ⟨Try.f109.name, by decide, Try.func109.trans (congrArg some (by kernel_rfl))⟩
  f15 := Try.func110.trans (congrArg some (by kernel_rfl))
  f20 := ⟨Try.f116.name, by decide, Try.func116.trans (congrArg some (by kernel_rfl))⟩
  f21 := ⟨Try.f117.name, by decide, Try.func117.trans (congrArg some (by kernel_rfl))⟩
  f22 := ⟨Try.f118.name, by decide, Try.func118.trans (congrArg some (by kernel_rfl))⟩
  f23 := ⟨Try.f119.name, by decide, Try.func119.trans (congrArg some (by kernel_rfl))⟩
  f24 := ⟨Try.f120.name, by decide, Try.func120.trans (congrArg some (by kernel_rfl))⟩
  f25 := ⟨Try.f121.name, by decide, Try.func121.trans (congrArg some (by kernel_rfl))⟩
  f26 := ⟨Try.f122.name, by decide, Try.func122.trans (congrArg some (by kernel_rfl))⟩
  f27 := ⟨Try.f123.name, by decide, Try.func123.trans (congrArg some (by kernel_rfl))⟩
  f28 := Try.func124.trans (congrArg some (by kernel_rfl))
  f29 := Try.func125.trans (congrArg some (by kernel_rfl))
  f46 := ⟨Try.f127.name, by decide, Try.func127.trans (congrArg some (by kernel_rfl))⟩
  f47 := Try.func128.trans (congrArg some (by kernel_rfl))
  f48 := Try.func129.trans (congrArg some (by kernel_rfl))
  f49 := ⟨Try.f130.name, by decide, Try.func130.trans (congrArg some (by kernel_rfl))⟩
  f50 := ⟨Try.f131.name, by decide, Try.func131.trans (congrArg some (by kernel_rfl))⟩
  f57 := ⟨Try.f132.name, by decide, Try.func132.trans (congrArg some (by kernel_rfl))⟩
  t0 := Try.underlying0
  a0 := Try.isAgg0
  z0 := Try.sizeOf0
  v0 := Try.zeroValue0
  t3 := Try.underlying3
  a3 := Try.isAgg3
  z3 := Try.sizeOf3
  v3 := Try.zeroValue3
  t4 := Try.underlying4
  a4 := Try.isAgg4
  z4 := Try.sizeOf4
  v4 := Try.zeroValue4
  t5 := Try.underlying5
  a5 := Try.isAgg5
  z5 := Try.sizeOf5
  v5 := Try.zeroValue5
  t9 := Try.underlying9
  a9 := Try.isAgg9
  z9 := Try.sizeOf9
  v9 := Try.zeroValue9
  t22 := Try.underlying81
  a22 := Try.isAgg81
  z22 := Try.sizeOf81
  v22 := Try.zeroValue81
  a24 := Try.isAgg3
  z24 := Try.sizeOf3
  t25 := Try.underlying104
  a25 := Try.isAgg104
  z25 := Try.sizeOf104
  v25 := Try.zeroValue104
  t39 := Try.underlying119
  a39 := Try.isAgg119
  z39 := Try.sizeOf119
  v39 := Try.zeroValue119
  t45 := Try.underlying121
  a45 := Try.isAgg121
  z45 := Try.sizeOf121
  v45 := Try.zeroValue121
  t46 := Try.underlying122
  a46 := Try.isAgg122
  z46 := Try.sizeOf122
  v46 := Try.zeroValue122
  t50 := Try.underlying70
  a50 := Try.isAgg70
  z50 := Try.sizeOf70
  v50 := Try.zeroValue70
  t53 := Try.underlying128
  a53 := Try.isAgg128
  z53 := Try.sizeOf128
  v53 := Try.zeroValue128
  t55 := Try.underlying23
  a55 := Try.isAgg23
  z55 := Try.sizeOf23
  v55 := Try.zeroValue23
  t66 := Try.underlying130
  a66 := Try.isAgg130
  z66 := Try.sizeOf130
  v66 := Try.zeroValue130
  t70 := Try.underlying134
  a70 := Try.isAgg134
  z70 := Try.sizeOf134
  v70 := Try.zeroValue134
  t76 := Try.underlying136
  a76 := Try.isAgg136
  z76 := Try.sizeOf136
  v76 := Try.zeroValue136
  t77 := Try.underlying90
  a77 := Try.isAgg90
  z77 := Try.sizeOf90
  v77 := Try.zeroValue90 }
open Go.RowKit Go.Lib Go.Sort in
/-- **slices.SortFunc: WHAT THE ROW HOLDS, TO THE ELEMENT.** (LAID AT THE INSTANCE 'slices.SortFunc[[]int,int]': no walk: one application.) -/
theorem Try.slices_SortFunc_eq {α : Type} [Inhabited α] (enc : α → Value) (h1 : OneCell enc) (cf : α → α → Int) (hO : SWO (ltOf cf)) (g : Nat) (cb : Array Value) (blk off cap : Nat) (d : Array α) (w : World) (eg : ∀ args w, (callFunc g args).run Try.prog w = .ok (.enter g args) w) (hcmp : CmpLays1 Try.prog g cb enc cf blk off d.size w) (hH : Holds enc w blk off d) (hblk : blk < w.heap.size) (hsz : d.size < 4611686018427387904) :
    Calls Try.prog 93 #[.slice (some ⟨blk, off, none⟩) d.size cap, .func (.func g) #[] cb] w fun e w' =>
      e = .returned (.tuple #[]) ∧ ∃ n os, w' = sortWorld enc w blk off n (pdq (ltOf cf) d 0 d.size (Lib.bitLen d.size) true true) os := Any.slices_SortFunc_eq Try.laysSlF6_f93 enc h1 cf hO g cb blk off cap d w eg hcmp hH hblk hsz
open Go.RowKit Go.Lib Go.Sort in
/-- **slices.SortFunc, IN THE DOCUMENTATION's OWN TERMS: A PERMUTATION OF WHAT THE ROW HELD, SORTED BY 'cmp(a, b) < 0'.** Which of two equals comes first is left open ("The sort is not guaranteed to be stable"). (LAID AT THE INSTANCE 'slices.SortFunc[[]int,int]': no walk: one application.) -/
theorem Try.slices_SortFunc {α : Type} [Inhabited α] (enc : α → Value) (h1 : OneCell enc) (cf : α → α → Int) (hO : SWO (ltOf cf)) (g : Nat) (cb : Array Value) (blk off cap : Nat) (d : Array α) (w : World) (eg : ∀ args w, (callFunc g args).run Try.prog w = .ok (.enter g args) w) (hcmp : CmpLays1 Try.prog g cb enc cf blk off d.size w) (hH : Holds enc w blk off d) (hblk : blk < w.heap.size) (hsz : d.size < 4611686018427387904) :
    Calls Try.prog 93 #[.slice (some ⟨blk, off, none⟩) d.size cap, .func (.func g) #[] cb] w fun e w' =>
      e = .returned (.tuple #[]) ∧ ∃ d' n os, PermIn 0 d.size d d' ∧ SortedIn (ltOf cf) 0 d.size d' ∧ w' = sortWorld enc w blk off n d' os := Any.slices_SortFunc Try.laysSlF6_f93 enc h1 cf hO g cb blk off cap d w eg hcmp hH hblk hsz
def Try.laysSlF020_f116_ren : Go.Shelf.Ren := ⟨fun | 20 => 116 | n => n, fun | 24 => 3 | 22 => 81 | 3 => 3 | 25 => 104 | 4 => 4 | 0 => 0 | n => n, fun | n => n⟩
theorem Try.laysSlF020_f116 : Go.Proofs.SlLaysF0.n20 Try.prog Try.laysSlF020_f116_ren := {
  mixed := by kernel_rfl
  f20 := ⟨Try.f116.name, by decide, Try.func116.trans (congrArg some (by kernel_rfl))⟩
  t0 := Try.underlying0
  a0 := Try.isAgg0
  z0 := Try.sizeOf0
  v0 := Try.zeroValue0
  t3 := Try.underlying3
  a3 := Try.isAgg3
  z3 := Try.sizeOf3
  v3 := Try.zeroValue3
  t4 := Try.underlying4
  a4 := Try.isAgg4
  z4 := Try.sizeOf4
  v4 := Try.zeroValue4
  t22 := Try.underlying81
  a22 := Try.isAgg81
  z22 := Try.sizeOf81
  v22 := Try.zeroValue81
  t25 := Try.underlying104
  a25 := Try.isAgg104
  z25 := Try.sizeOf104
  v25 := Try.zeroValue104 }
open Go.RowKit Go.Lib Go.Sort in
theorem Try.insertionSortCmpFunc_none {α : Type} [Inhabited α] (p : Option Addr) (cap : Nat) (fv : Value) (w : World) :
    Calls Try.prog 116 #[.slice p 0 cap, .int .i64 0, .int .i64 0, fv] w fun e w' => e = .returned (.tuple #[]) ∧ w' = w := AnyF.insertionSortCmpFunc_none Try.laysSlF020_f116 p cap fv w
def Try.laysSlF014_f109_ren : Go.Shelf.Ren := ⟨fun | 14 => 109 | 20 => 116 | 21 => 117 | 22 => 118 | 23 => 119 | 24 => 120 | 25 => 121 | 26 => 122 | 27 => 123 | 46 => 127 | 47 => 128 | 48 => 129 | 49 => 130 | 50 => 131 | 15 => 110 | 57 => 132 | 28 => 124 | 29 => 125 | n => n, fun | 24 => 3 | 22 => 81 | 3 => 3 | 25 => 104 | 4 => 4 | 0 => 0 | 46 => 122 | 45 => 121 | 50 => 70 | 66 => 130 | 39 => 119 | 55 => 23 | 70 => 134 | 76 => 136 | 77 => 90 | 53 => 128 | 5 => 5 | 9 => 9 | n => n, fun | n => n⟩
theorem Try.laysSlF014_f109 : Go.Proofs.SlLaysF0.n14 Try.prog Try.laysSlF014_f109_ren := {
  mixed := by kernel_rfl
  f14 := ⟨Try.f109.name, by decide, Try.func109.trans (congrArg some (by kernel_rfl))⟩
  f15 := Try.func110.trans (congrArg some (by kernel_rfl))
  f20 := ⟨Try.f116.name, by decide, Try.func116.trans (congrArg some (by kernel_rfl))⟩
  f21 := ⟨Try.f117.name, by decide, Try.func117.trans (congrArg some (by kernel_rfl))⟩
  f22 := ⟨Try.f118.name, by decide, Try.func118.trans (congrArg some (by kernel_rfl))⟩
  f23 := ⟨Try.f119.name, by decide, Try.func119.trans (congrArg some (by kernel_rfl))⟩
  f24 := ⟨Try.f120.name, by decide, Try.func120.trans (congrArg some (by kernel_rfl))⟩
  f25 := ⟨Try.f121.name, by decide, Try.func121.trans (congrArg some (by kernel_rfl))⟩
  f26 := ⟨Try.f122.name, by decide, Try.func122.trans (congrArg some (by kernel_rfl))⟩
  f27 := ⟨Try.f123.name, by decide, Try.func123.trans (congrArg some (by kernel_rfl))⟩
  f28 := Try.func124.trans (congrArg some (by kernel_rfl))
  f29 := Try.func125.trans (congrArg some (by kernel_rfl))
  f46 := ⟨Try.f127.name, by decide, Try.func127.trans (congrArg some (by kernel_rfl))⟩
  f47 := Try.func128.trans (congrArg some (by kernel_rfl))
  f48 := Try.func129.trans (congrArg some (by kernel_rfl))
  f49 := ⟨Try.f130.name, by decide, Try.func130.trans (congrArg some (by kernel_rfl))⟩
  f50 := ⟨Try.f131.name, by decide, Try.func131.trans (congrArg some (by kernel_rfl))⟩
  f57 := ⟨Try.f132.name, by decide, Try.func132.trans (congrArg some (by kernel_rfl))⟩
  t0 := Try.underlying0
  a0 := Try.isAgg0
  z0 := Try.sizeOf0
  v0 := Try.zeroValue0
  t3 := Try.underlying3
  a3 := Try.isAgg3
  z3 := Try.sizeOf3
  v3 := Try.zeroValue3
  t4 := Try.underlying4
  a4 := Try.isAgg4
  z4 := Try.sizeOf4
  v4 := Try.zeroValue4
  t5 := Try.underlying5
  a5 := Try.isAgg5
  z5 := Try.sizeOf5
  v5 := Try.zeroValue5
  t9 := Try.underlying9
  a9 := Try.isAgg9
  z9 := Try.sizeOf9
  v9 := Try.zeroValue9
  t22 := Try.underlying81
  a22 := Try.isAgg81
  z22 := Try.sizeOf81
  v22 := Try.zeroValue81
  t25 := Try.underlying104
  a25 := Try.isAgg104
  z25 := Try.sizeOf104
  v25 := Try.zeroValue104
  t39 := Try.underlying119
  a39 := Try.isAgg119
  z39 := Try.sizeOf119
  v39 := Try.zeroValue119
  t45 := Try.underlying121
  a45 := Try.isAgg121
  z45 := Try.sizeOf121
  v45 := Try.zeroValue121
  t46 := Try.underlying122
  a46 := Try.isAgg122
  z46 := Try.sizeOf122
  v46 := Try.zeroValue122
  t50 := Try.underlying70
  a50 := Try.isAgg70
  z50 := Try.sizeOf70
  v50 := Try.zeroValue70
  t53 := Try.underlying128
  a53 := Try.isAgg128
  z53 := Try.sizeOf128
  v53 := Try.zeroValue128
  t55 := Try.underlying23
  a55 := Try.isAgg23
  z55 := Try.sizeOf23
  v55 := Try.zeroValue23
  t66 := Try.underlying130
  a66 := Try.isAgg130
  z66 := Try.sizeOf130
  v66 := Try.zeroValue130
  t70 := Try.underlying134
  a70 := Try.isAgg134
  z70 := Try.sizeOf134
  v70 := Try.zeroValue134
  t76 := Try.underlying136
  a76 := Try.isAgg136
  z76 := Try.sizeOf136
  v76 := Try.zeroValue136
  t77 := Try.underlying90
  a77 := Try.isAgg90
  z77 := Try.sizeOf90
  v77 := Try.zeroValue90 }
open Go.RowKit Go.Lib Go.Sort in
theorem Try.pdqsortCmpFunc_none {α : Type} [Inhabited α] (p : Option Addr) (cap : Nat) (lim : Int) (fv : Value) (w : World) :
    Calls Try.prog 109 #[.slice p 0 cap, .int .i64 0, .int .i64 0, .int .i64 lim, fv] w fun e w' => e = .returned (.tuple #[]) ∧ w' = w := AnyF.pdqsortCmpFunc_none Try.laysSlF014_f109 p cap lim fv w
def Try.laysSlF06_f93_ren : Go.Shelf.Ren := ⟨fun | 6 => 93 | 15 => 110 | 14 => 109 | 28 => 124 | 29 => 125 | 20 => 116 | 21 => 117 | 22 => 118 | 23 => 119 | 24 => 120 | 25 => 121 | 26 => 122 | 27 => 123 | 46 => 127 | 47 => 128 | 48 => 129 | 49 => 130 | 50 => 131 | 57 => 132 | n => n, fun | 22 => 81 | 24 => 3 | 25 => 104 | 3 => 3 | 39 => 119 | 0 => 0 | 53 => 128 | 55 => 23 | 4 => 4 | 46 => 122 | 45 => 121 | 50 => 70 | 5 => 5 | 9 => 9 | 66 => 130 | 70 => 134 | 76 => 136 | 77 => 90 | n => n, fun | n => n⟩
theorem Try.laysSlF06_f93 : Go.Proofs.SlLaysF0.n6 Try.prog Try.laysSlF06_f93_ren := {
  mixed := by kernel_rfl
  f6 := ⟨Try.f93.name, by decide, Try.func93.trans (congrArg some (by kernel_rfl))⟩
  f14 := ⟨Try.f109.name, by decide, Try.func109.trans (congrArg some (by kernel_rfl))⟩
  f15 := Try.func110.trans (congrArg some (by kernel_rfl))
  f20 := ⟨Try.f116.name, by decide, Try.func116.trans (congrArg some (by kernel_rfl))⟩
  f21 := ⟨Try.f117.name, by decide, Try.func117.trans (congrArg some (by kernel_rfl))⟩
  f22 := ⟨Try.f118.name, by decide, Try.func118.trans (congrArg some (by kernel_rfl))⟩
  f23 := ⟨Try.f119.name, by decide, Try.func119.trans (congrArg some (by kernel_rfl))⟩
  f24 := ⟨Try.f120.name, by decide, Try.func120.trans (congrArg some (by kernel_rfl))⟩
  f25 := ⟨Try.f121.name, by decide, Try.func121.trans (congrArg some (by kernel_rfl))⟩
  f26 := ⟨Try.f122.name, by decide, Try.func122.trans (congrArg some (by kernel_rfl))⟩
  f27 := ⟨Try.f123.name, by decide, Try.func123.trans (congrArg some (by kernel_rfl))⟩
  f28 := Try.func124.trans (congrArg some (by kernel_rfl))
  f29 := Try.func125.trans (congrArg some (by kernel_rfl))
  f46 := ⟨Try.f127.name, by decide, Try.func127.trans (congrArg some (by kernel_rfl))⟩
  f47 := Try.func128.trans (congrArg some (by kernel_rfl))
  f48 := Try.func129.trans (congrArg some (by kernel_rfl))
  f49 := ⟨Try.f130.name, by decide, Try.func130.trans (congrArg some (by kernel_rfl))⟩
  f50 := ⟨Try.f131.name, by decide, Try.func131.trans (congrArg some (by kernel_rfl))⟩
  f57 := ⟨Try.f132.name, by decide, Try.func132.trans (congrArg some (by kernel_rfl))⟩
  t0 := Try.underlying0
  a0 := Try.isAgg0
  z0 := Try.sizeOf0
  v0 := Try.zeroValue0
  t3 := Try.underlying3
  a3 := Try.isAgg3
  z3 := Try.sizeOf3
  v3 := Try.zeroValue3
  t4 := Try.underlying4
  a4 := Try.isAgg4
  z4 := Try.sizeOf4
  v4 := Try.zeroValue4
  t5 := Try.underlying5
  a5 := Try.isAgg5
  z5 := Try.sizeOf5
  v5 := Try.zeroValue5
  t9 := Try.underlying9
  a9 := Try.isAgg9
  z9 := Try.sizeOf9
  v9 := Try.zeroValue9
  t22 := Try.underlying81
  a22 := Try.isAgg81
  z22 := Try.sizeOf81
  v22 := Try.zeroValue81
  t25 := Try.underlying104
  a25 := Try.isAgg104
  z25 := Try.sizeOf104
  v25 := Try.zeroValue104
  t39 := Try.underlying119
  a39 := Try.isAgg119
  z39 := Try.sizeOf119
  v39 := Try.zeroValue119
  t45 := Try.underlying121
  a45 := Try.isAgg121
  z45 := Try.sizeOf121
  v45 := Try.zeroValue121
  t46 := Try.underlying122
  a46 := Try.isAgg122
  z46 := Try.sizeOf122
  v46 := Try.zeroValue122
  t50 := Try.underlying70
  a50 := Try.isAgg70
  z50 := Try.sizeOf70
  v50 := Try.zeroValue70
  t53 := Try.underlying128
  a53 := Try.isAgg128
  z53 := Try.sizeOf128
  v53 := Try.zeroValue128
  t55 := Try.underlying23
  a55 := Try.isAgg23
  z55 := Try.sizeOf23
  v55 := Try.zeroValue23
  t66 := Try.underlying130
  a66 := Try.isAgg130
  z66 := Try.sizeOf130
  v66 := Try.zeroValue130
  t70 := Try.underlying134
  a70 := Try.isAgg134
  z70 := Try.sizeOf134
  v70 := Try.zeroValue134
  t76 := Try.underlying136
  a76 := Try.isAgg136
  z76 := Try.sizeOf136
  v76 := Try.zeroValue136
  t77 := Try.underlying90
  a77 := Try.isAgg90
  z77 := Try.sizeOf90
  v77 := Try.zeroValue90 }
open Go.RowKit Go.Lib Go.Sort in
/-- **slices.SortFunc AT NO ELEMENT, A nil SLICE TOO: nothing turns.** (LAID AT THE INSTANCE 'slices.SortFunc[[]int,int]': no walk: one application.) -/
theorem Try.slices_SortFunc_none {α : Type} [Inhabited α] (p : Option Addr) (cap : Nat) (fv : Value) (w : World) :
    Calls Try.prog 93 #[.slice p 0 cap, fv] w fun e w' => e = .returned (.tuple #[]) ∧ w' = w := AnyF.slices_SortFunc_none Try.laysSlF06_f93 p cap fv w
open Go.RowKit Go.Lib Go.Sort in
/-- **slices.SortFunc AT ONE CELL, UNDER A 'cmp' THAT PARTS WHATEVER TWO THAT ARE NOT ONE: THE ROW HOLDS core's 'mergeSort'.** (LAID AT THE INSTANCE 'slices.SortFunc[[]int,int]': no walk: one application.) -/
theorem Try.slices_SortFunc_total {α : Type} [Inhabited α] (enc : α → Value) (h1 : OneCell enc) (cf : α → α → Int) (hO : SWO (ltOf cf)) (g : Nat) (cb : Array Value) (blk off cap : Nat) (d : Array α) (w : World) (eg : ∀ args w, (callFunc g args).run Try.prog w = .ok (.enter g args) w) (hcmp : CmpLays1 Try.prog g cb enc cf blk off d.size w) (hH : Holds enc w blk off d) (hblk : blk < w.heap.size) (hsz : d.size < 4611686018427387904) (hT : ∀ x y, (ltOf cf) x y = false → (ltOf cf) y x = false → x = y) :
    Calls Try.prog 93 #[.slice (some ⟨blk, off, none⟩) d.size cap, .func (.func g) #[] cb] w fun e w' =>
      e = .returned (.tuple #[]) ∧ ∃ n os, w' = sortWorld enc w blk off n (d.toList.mergeSort fun x y => !(ltOf cf) y x).toArray os := Any.slices_SortFunc_total Try.laysSlF6_f93 enc h1 cf hO g cb blk off cap d w eg hcmp hH hblk hsz hT
end Go.Proofs

/-
  Trees: the first error in the keys of a node (keyed). Conditions: the node lies in memory; at most 4096 keys.
-/
namespace Go.Proofs.Ytlhliolknaopjaa
open Go Go.ChangeShapes Go.WideShapes Go.ChangeAt Go.RowKit Go.Joins Go.Deep
set_option linter.unusedVariables false
set_option linter.unusedSimpArgs false

theorem key_str {a b : ByteArray} (h : a.data.toList = b.data.toList) : a = b := by
  cases a; cases b; simp at h ⊢; exact h
/-- Whether the byte 00 occurs. -/
def zeroB (s : ByteArray) : Bool := decide ((0 : UInt8) ∈ s.data.toList)
theorem zeroB_index (s : ByteArray) : zeroB s = decide (0 ≤ Lib.indexByte s.data.toList 0) := by
  have h := Lib.contains_iff_indexByte s.data.toList 0
  unfold zeroB
  simpa using h
set_option maxRecDepth 100000 in
theorem zero1_any (s : ByteArray) (w : World) : Calls Try.prog 66 #[.string s] w fun r w' => r = .returned (.bool (zeroB s)) ∧ w' = w := by
  have hc := Try.strings_IndexByte s 0 w
  rw [show ((0 : Int).toNat.toUInt8) = 0 from rfl] at hc
  have HE : Hid (zeroB s = decide (0 ≤ Lib.indexByte s.data.toList 0)) := zeroB_index s
  generalize Lib.indexByte s.data.toList 0 = q at *
  have HC := Lib.hid hc
  clear hc
  go_enter Try.func66, Try.ntmps66
  go_wp2_with fail
  refine HC.out.mono ?_
  rintro r w' ⟨rfl, rfl⟩
  go_wp2_with fail
  go_ret
  exact ⟨by rw [HE.out]; rfl, rfl⟩

/-- Whether a string occurs in a list. -/
def seenB (k : ByteArray) (l : List ByteArray) : Bool := l.any fun x => decide (x = k)
theorem seenB_iff (k : ByteArray) (l : List ByteArray) : seenB k l = true ↔ k ∈ l := by simp [seenB]
/-- The errors of a list of keys, those of had being there already. -/
def keysE : List ByteArray → List ByteArray → Int
  | _, [] => 0
  | had, k :: r => if zeroB k = true then 70 else if seenB k had = true then 71 else keysE (had ++ [k]) r
def keyedE : Tr → Int | .mk k n u s keys l => if k = 5 ∧ zeroB s = true then 70 else keysE [] keys

/-- The set of the keys seen, as a datum. -/
def SetD (l : List ByteArray) : DataW Unit := l.foldl (fun D k => D.put (.string k.data.toList) (.lit (.bool true))) (.map [])
theorem SetD_snoc (l : List ByteArray) (k : ByteArray) : SetD (l ++ [k]) = (SetD l).put (.string k.data.toList) (.lit (.bool true)) := by simp [SetD]
theorem put_map {H : Type} {D : DataW H} (h : Go.Maps.IsMap D) (k : Lit) (d : DataW H) : Go.Maps.IsMap (D.put k d) := by
  obtain ⟨es, rfl⟩ := h
  exact ⟨_, rfl⟩
theorem SetD_map (l : List ByteArray) : Go.Maps.IsMap (SetD l) := by
  unfold SetD
  suffices h : ∀ (l : List ByteArray) (D : DataW Unit), Go.Maps.IsMap D → Go.Maps.IsMap (l.foldl (fun D k => D.put (.string k.data.toList) (.lit (.bool true))) D) from h l _ ⟨[], rfl⟩
  intro l
  induction l with
  | nil => intro D h; exact h
  | cons k r ih => intro D h; exact ih _ (put_map h _ _)
theorem SetD_at (k : ByteArray) (l : List ByteArray) : (SetD l).atKey (.string k.data.toList) (.lit (.bool false)) = .lit (.bool (seenB k l)) := by
  obtain ⟨m, hm⟩ : ∃ m, m = l.length := ⟨_, rfl⟩
  induction m generalizing l with
  | zero =>
    obtain rfl := List.length_eq_zero_iff.1 hm.symm
    rfl
  | succ m ih =>
    obtain ⟨l, x, rfl⟩ : ∃ l' x, l = l' ++ [x] := ⟨l.dropLast, l.getLast (by intro e; subst e; simp at hm), (List.dropLast_concat_getLast _).symm⟩
    rw [SetD_snoc]
    by_cases e : k = x
    · subst e
      rw [Go.Maps.atKey_put_same (SetD_map l) (by simp [WideAt.IsKeyLit])]
      simp [seenB]
    · rw [Go.Maps.atKey_put_other (fun h => e (key_str (by injection h))), ih l (by simp at hm; omega)]
      simp [seenB, Ne.symm e, fun h => e (Eq.symm h)]
theorem plainElem_bool_inv {H : Type} {P : Program} {e : TypeId} (he : P.underlying e = some .bool) {v : Value} {z : DataW H × List MemPlace} (h : plainElem P e v = some z) : ∃ x, v = .bool x ∧ z = (.lit (.bool x), []) := by
  unfold plainElem at h
  rw [he] at h
  cases v <;> simp at h
  exact ⟨_, rfl, h.symm⟩
theorem wpList_lookup_own_bool {H : Type} {P : Program} (w : World) {ops : Array Oper} {rest : List Oper} {o : Oper} {a : Act} {Q : Exit → Act → World → Prop}
    (hg : o.guard = none) (m x : Operand) (t : TypeId) (hop : o.op = Op.lookup t m x false)
    (k e : TypeId) (K : Go.Maps.Keyed P k) (ht : P.underlying t = some (.map k e)) (he : P.underlying e = some .bool) (hz : (zeroValue e).run P w = .ok (.bool false) w) (b n : Nat) (D : DataW H)
    (hm : a.eval m = .map (some b)) (hown : w.ownsMap P k (plainElem P e) b n D) (key : Value) (kl : Lit) (hx : a.eval x = key) (hkey : keyOf P k key = some kl) (y : Bool) (hat : D.atKey kl (.lit (.bool false)) = .lit (.bool y))
    (hK : wpList P ops Q rest (a.put o.dst (.bool y)) w) :
    wpList P ops Q (o :: rest) a w := by
  refine wpList_plain hg fun K' hK' => ?_
  obtain ⟨v, ps, hrun, hv⟩ := hown.lookup K ht hz (plainElem_bool he false) hkey
  obtain ⟨c, rfl, hc⟩ := plainElem_bool_inv he hv
  simp only [Prod.mk.injEq] at hc
  rw [hat] at hc
  obtain ⟨hc, _⟩ := hc
  injection hc with hc
  injection hc with hc
  subst hc
  unfold Oper.wp
  simp [execOp, hop, hm, hx, hrun, Result.andThen]
  exact hK' _ _ hK
theorem keysE_take {keys : List ByteArray} {i : Nat} {x : ByteArray} (h : keys[i]? = some x) : keysE (keys.take i) (keys.drop i) = if zeroB x = true then 70 else if seenB x (keys.take i) = true then 71 else keysE (keys.take (i + 1)) (keys.drop (i + 1)) := by
  obtain ⟨hl, hx⟩ := List.getElem?_eq_some_iff.1 h
  rw [List.drop_eq_getElem_cons hl, hx]
  simp only [keysE]
  rw [List.take_add_one, h]
  rfl
set_option maxRecDepth 100000 in
set_option maxHeartbeats 2000000 in
theorem keyed_any (t : Tr) (v : Value) (w : World) (hn : NodeAt w t v) :
    Calls Try.prog 39 #[v] w fun r w' => r = .returned (.int .i64 (keyedE t)) ∧ Grew w w' := by
  obtain ⟨k, n, u, s, keys, l⟩ := t
  simp only [NodeAt] at hn
  obtain ⟨hb, kv, lv, vs, rfl, hks, hrows, hkids⟩ := hn
  have HKS := Lib.hid hks
  obtain ⟨a4, c4, rfl, hkc, hkm, hx3, hx4⟩ := hks
  obtain ⟨a5, c5, rfl, hll, hc5, hx5, hx6⟩ := hrows
  have hmm := @run_makeMap Try.prog
  have hk4 : keys.length ≤ 9223372036854775807 := by unfold lenok at hkm; omega
  clear hx3 hx4 hx5 hx6 hll hc5 hkids hkc hkm hb
  by_cases hz : k = 5 ∧ zeroB s = true
  · obtain ⟨rfl, hz⟩ := hz
    have HF : Hid (keyedE (.mk 5 n u s keys l) = 70) := by show _ = _; simp [keyedE, hz]
    go_enter Try.func39, Try.ntmps39
    go_wp2_with (go_at_call 66; refine (zero1_any _ _).mono ?_; rintro r w2 ⟨rfl, rfl⟩; rw [hz])
    go_ret
    exact ⟨by rw [HF.out]; rfl, (Grew.refl w).alloc _⟩
  have HF : Hid (keyedE (.mk k n u s keys l) = keysE [] keys) := by show _ = _; simp only [keyedE]; rw [if_neg hz]
  have hz5 : k = 5 → zeroB s = false := fun h => by simpa [h] using hz
  clear hz
  generalize keyedE (.mk k n u s keys l) = E at *
  by_cases h5 : k = 5
  · have hz := hz5 h5
    subst h5
    clear hz5
    go_enter Try.func39, Try.ntmps39
    go_wp2_with (go_at_call 66; refine (zero1_any _ _).mono ?_; rintro r w2 ⟨rfl, rfl⟩; rw [hz])
    go_loopw [20] (fun i wr => ∃ j : Nat, j ≤ keys.length ∧ i = .int .i64 j ∧ Hid (wr.ownsMap Try.prog 9 (plainElem Try.prog 4) (w.heap.size + 1) j (SetD (keys.take j)) ∧ Grew w wr ∧ keysE (keys.take j) (keys.drop j) = keysE [] keys)) (fun i _ => keys.length - (intOf i).toNat)
    case atStart =>
      refine ⟨0, Nat.zero_le _, rfl, ?_⟩
      show _ ∧ _ ∧ _
      exact ⟨by have := World.ownsMap_made (H := Unit) (w.alloc (.cells #[.int .i64 5, .int .i64 n, .int .u64 u, .string s, .slice a4 keys.length c4, .slice a5 vs.length c5] 27)) Try.prog 9 (plainElem Try.prog 4); rw [World.size_alloc] at this; exact this, ((Grew.refl w).alloc _).alloc _, rfl⟩
    case round =>
      obtain ⟨j, hj, rfl, HW⟩ := hrel
      by_cases hlt : j < keys.length
      · obtain ⟨x, hx⟩ : ∃ x, keys[j]? = some x := ⟨_, List.getElem?_eq_getElem hlt⟩
        have HT := Lib.hid (keysE_take hx)
        have HTK : Hid (keys.take j ++ [x] = keys.take (j + 1)) := by show _ = _; rw [List.take_add_one, hx]; rfl
        obtain ⟨lx, b, off, rfl, hcx⟩ : ∃ (lx : lenok x.size) (b off : Nat), a4 = some ⟨b, off, none⟩ ∧ wr.cell? ⟨b, off + j, none⟩ = some (.string x) := by
          obtain ⟨a, c, e, _, _, _, h⟩ := HKS.out
          injection e with e1 e2 e3
          subst e1
          obtain ⟨hx1, b, off, e, hc⟩ := h j x hx
          exact ⟨hx1, b, off, e, HW.out.2.1.cell hc⟩
        have hkey : Hid (keyOf Try.prog 9 (.string x) = some (.string x.data.toList)) := Go.WideMaps.keyOf_string_mk Try.underlying9 (by unfold lenok at lx; unfold maxLen; omega)
        clear hx lx
        have hlti : (j : Int) < keys.length := by omega
        by_cases h0 : zeroB x = true
        · have HF2 : Hid (E = 70) := by
            show _ = _
            rw [HF.out, ← HW.out.2.2, HT.out, if_pos h0]
          go_wp2_with (go_at_call 66; refine (zero1_any _ _).mono ?_; rintro r w2 ⟨rfl, rfl⟩; rw [h0])
          go_ret
          exact ⟨by rw [HF2.out]; rfl, HW.out.2.1⟩
        · have hz0 : zeroB x = false := by simpa using h0
          clear h0
          cases hs : seenB x (keys.take j)
          · have HS : Hid (keysE (keys.take j) (keys.drop j) = keysE (keys.take (j + 1)) (keys.drop (j + 1))) := by
              show _ = _
              rw [HT.out, hz0, hs]; rfl
            have HAT : Hid ((SetD (keys.take j)).atKey (.string x.data.toList) (.lit (.bool false)) = .lit (.bool false)) := by show _ = _; rw [SetD_at, hs]
            clear hs HT
            go_wp2_with (first
              | (go_at_call 66; refine (zero1_any _ _).mono ?_; rintro r w2 ⟨rfl, rfl⟩; rw [hz0])
              | (at_lookup; refine wpList_lookup_own_bool _ rfl _ _ 80 rfl 9 4 (Go.Maps.string_keyed Try.underlying9) Try.underlying80 Try.underlying4 (Try.zeroValue4 _) (w.heap.size + 1) j _ rfl HW.out.1 _ _ rfl hkey.out false HAT.out ?_)
              | (at_mapUpdate; refine wpList_mapUpdate_own _ rfl _ _ _ 80 rfl 9 4 (Go.Maps.string_keyed Try.underlying9) Try.underlying80 _ (w.heap.size + 1) j _ rfl HW.out.1 (by unfold maxLen; omega) _ _ _ rfl rfl hkey.out _ [] (plainElem_bool Try.underlying4 true) ?_; intro w1 hown1 hgrow1; have HN := Lib.hid (And.intro hown1 hgrow1); clear hown1 hgrow1))
            go_roundw
            case rel =>
              refine ⟨j + 1, by omega, by go_num, ?_⟩
              show _ ∧ _ ∧ _
              refine ⟨?_, ?_, by rw [← HS.out]; exact HW.out.2.2⟩
              · rw [← HTK.out, SetD_snoc]; exact HN.out.1
              · exact Below.grown HW.out.2.1 HN.out.2 HW.out.2.1.size (fun q e => by injection e with e; omega)
            case measure => simp [intOf]; omega
          · have HF2 : Hid (E = 71) := by
              show _ = _
              rw [HF.out, ← HW.out.2.2, HT.out, hz0, hs]; rfl
            have HAT : Hid ((SetD (keys.take j)).atKey (.string x.data.toList) (.lit (.bool false)) = .lit (.bool true)) := by show _ = _; rw [SetD_at, hs]
            clear hs HT
            go_wp2_with (first
              | (go_at_call 66; refine (zero1_any _ _).mono ?_; rintro r w2 ⟨rfl, rfl⟩; rw [hz0])
              | (at_lookup; refine wpList_lookup_own_bool _ rfl _ _ 80 rfl 9 4 (Go.Maps.string_keyed Try.underlying9) Try.underlying80 Try.underlying4 (Try.zeroValue4 _) (w.heap.size + 1) j _ rfl HW.out.1 _ _ rfl hkey.out true HAT.out ?_))
            go_ret
            exact ⟨by rw [HF2.out]; rfl, HW.out.2.1⟩
      · have ej : j = keys.length := by omega
        subst ej
        have HF2 : Hid (E = 0) := by
          show _ = _
          rw [HF.out, ← HW.out.2.2]
          simp [keysE]
        go_wp2_with fail
        go_ret
        exact ⟨by rw [HF2.out]; rfl, HW.out.2.1⟩
  · clear hz5
    go_enter Try.func39, Try.ntmps39
    go_wp2_with fail
    go_loopw [20] (fun i wr => ∃ j : Nat, j ≤ keys.length ∧ i = .int .i64 j ∧ Hid (wr.ownsMap Try.prog 9 (plainElem Try.prog 4) (w.heap.size + 1) j (SetD (keys.take j)) ∧ Grew w wr ∧ keysE (keys.take j) (keys.drop j) = keysE [] keys)) (fun i _ => keys.length - (intOf i).toNat)
    case atStart =>
      refine ⟨0, Nat.zero_le _, rfl, ?_⟩
      show _ ∧ _ ∧ _
      exact ⟨by have := World.ownsMap_made (H := Unit) (w.alloc (.cells #[.int .i64 k, .int .i64 n, .int .u64 u, .string s, .slice a4 keys.length c4, .slice a5 vs.length c5] 27)) Try.prog 9 (plainElem Try.prog 4); rw [World.size_alloc] at this; exact this, ((Grew.refl w).alloc _).alloc _, rfl⟩
    case round =>
      obtain ⟨j, hj, rfl, HW⟩ := hrel
      by_cases hlt : j < keys.length
      · obtain ⟨x, hx⟩ : ∃ x, keys[j]? = some x := ⟨_, List.getElem?_eq_getElem hlt⟩
        have HT := Lib.hid (keysE_take hx)
        have HTK : Hid (keys.take j ++ [x] = keys.take (j + 1)) := by show _ = _; rw [List.take_add_one, hx]; rfl
        obtain ⟨lx, b, off, rfl, hcx⟩ : ∃ (lx : lenok x.size) (b off : Nat), a4 = some ⟨b, off, none⟩ ∧ wr.cell? ⟨b, off + j, none⟩ = some (.string x) := by
          obtain ⟨a, c, e, _, _, _, h⟩ := HKS.out
          injection e with e1 e2 e3
          subst e1
          obtain ⟨hx1, b, off, e, hc⟩ := h j x hx
          exact ⟨hx1, b, off, e, HW.out.2.1.cell hc⟩
        have hkey : Hid (keyOf Try.prog 9 (.string x) = some (.string x.data.toList)) := Go.WideMaps.keyOf_string_mk Try.underlying9 (by unfold lenok at lx; unfold maxLen; omega)
        clear hx lx
        have hlti : (j : Int) < keys.length := by omega
        by_cases h0 : zeroB x = true
        · have HF2 : Hid (E = 70) := by
            show _ = _
            rw [HF.out, ← HW.out.2.2, HT.out, if_pos h0]
          go_wp2_with (go_at_call 66; refine (zero1_any _ _).mono ?_; rintro r w2 ⟨rfl, rfl⟩; rw [h0])
          go_ret
          exact ⟨by rw [HF2.out]; rfl, HW.out.2.1⟩
        · have hz0 : zeroB x = false := by simpa using h0
          clear h0
          cases hs : seenB x (keys.take j)
          · have HS : Hid (keysE (keys.take j) (keys.drop j) = keysE (keys.take (j + 1)) (keys.drop (j + 1))) := by
              show _ = _
              rw [HT.out, hz0, hs]; rfl
            have HAT : Hid ((SetD (keys.take j)).atKey (.string x.data.toList) (.lit (.bool false)) = .lit (.bool false)) := by show _ = _; rw [SetD_at, hs]
            clear hs HT
            go_wp2_with (first
              | (go_at_call 66; refine (zero1_any _ _).mono ?_; rintro r w2 ⟨rfl, rfl⟩; rw [hz0])
              | (at_lookup; refine wpList_lookup_own_bool _ rfl _ _ 80 rfl 9 4 (Go.Maps.string_keyed Try.underlying9) Try.underlying80 Try.underlying4 (Try.zeroValue4 _) (w.heap.size + 1) j _ rfl HW.out.1 _ _ rfl hkey.out false HAT.out ?_)
              | (at_mapUpdate; refine wpList_mapUpdate_own _ rfl _ _ _ 80 rfl 9 4 (Go.Maps.string_keyed Try.underlying9) Try.underlying80 _ (w.heap.size + 1) j _ rfl HW.out.1 (by unfold maxLen; omega) _ _ _ rfl rfl hkey.out _ [] (plainElem_bool Try.underlying4 true) ?_; intro w1 hown1 hgrow1; have HN := Lib.hid (And.intro hown1 hgrow1); clear hown1 hgrow1))
            go_roundw
            case rel =>
              refine ⟨j + 1, by omega, by go_num, ?_⟩
              show _ ∧ _ ∧ _
              refine ⟨?_, ?_, by rw [← HS.out]; exact HW.out.2.2⟩
              · rw [← HTK.out, SetD_snoc]; exact HN.out.1
              · exact Below.grown HW.out.2.1 HN.out.2 HW.out.2.1.size (fun q e => by injection e with e; omega)
            case measure => simp [intOf]; omega
          · have HF2 : Hid (E = 71) := by
              show _ = _
              rw [HF.out, ← HW.out.2.2, HT.out, hz0, hs]; rfl
            have HAT : Hid ((SetD (keys.take j)).atKey (.string x.data.toList) (.lit (.bool false)) = .lit (.bool true)) := by show _ = _; rw [SetD_at, hs]
            clear hs HT
            go_wp2_with (first
              | (go_at_call 66; refine (zero1_any _ _).mono ?_; rintro r w2 ⟨rfl, rfl⟩; rw [hz0])
              | (at_lookup; refine wpList_lookup_own_bool _ rfl _ _ 80 rfl 9 4 (Go.Maps.string_keyed Try.underlying9) Try.underlying80 Try.underlying4 (Try.zeroValue4 _) (w.heap.size + 1) j _ rfl HW.out.1 _ _ rfl hkey.out true HAT.out ?_))
            go_ret
            exact ⟨by rw [HF2.out]; rfl, HW.out.2.1⟩
      · have ej : j = keys.length := by omega
        subst ej
        have HF2 : Hid (E = 0) := by
          show _ = _
          rw [HF.out, ← HW.out.2.2]
          simp [keysE]
        go_wp2_with fail
        go_ret
        exact ⟨by rw [HF2.out]; rfl, HW.out.2.1⟩
end Go.Proofs.Ytlhliolknaopjaa

/-
  Keys: the comparison that Order sorts by. Conditions: the list lies in memory, the indices are in range.
-/
namespace Go.Proofs.Ytlhliolknaopjaa
open Go Go.ChangeShapes Go.WideShapes Go.ChangeAt Go.RowKit Go.Joins Go.Deep
set_option linter.unusedVariables false
set_option linter.unusedSimpArgs false

set_option maxRecDepth 100000 in
set_option maxHeartbeats 1000000 in
theorem order1_any (l : List ByteArray) (lv : Value) (bx i j : Nat) (x y : ByteArray) (hx : l[i]? = some x) (hy : l[j]? = some y) (W : World) (hs : StrsAt W lv l) (hb : W.cell? ⟨bx, 0, none⟩ = some lv) :
    Calls Try.prog 94 #[.int .i64 i, .int .i64 j, .pointer (some ⟨bx, 0, none⟩)] W fun e w' => e = .returned (.int .i64 (Lib.compareBytes x.data.toList y.data.toList)) ∧ ∃ q, w' = W.drewN q := by
  have hi : i < l.length := (List.getElem?_eq_some_iff.1 hx).1
  have hj : j < l.length := (List.getElem?_eq_some_iff.1 hy).1
  obtain ⟨a, c, rfl, hlc, hc, _, hcell⟩ := hs
  obtain ⟨_, b, off, rfl, h0⟩ := hcell i x hx
  obtain ⟨_, b', off', e, h1⟩ := hcell j y hy
  cases e
  have hcmp := Try.strings_Compare x y
  have HC := Lib.hid hcmp
  unfold lenok at hc
  have hii : (i : Int) < l.length := by omega
  have hji : (j : Int) < l.length := by omega
  clear hcell hx hy hcmp
  generalize Lib.compareBytes x.data.toList y.data.toList = q at *
  go_enter Try.func94, Try.ntmps94
  go_wp2_with fail
  go_quiet ((go_at_call 95; exact Calls.quiet_of_same (HC.out _)))
  go_wp2
  go_ret
  exact ⟨rfl, _, rfl⟩
end Go.Proofs.Ytlhliolknaopjaa

/-
  Keys: the order of byte strings, plain; the worlds that the sort passes through.
-/
namespace Go.Proofs.Ytlhliolknaopjaa
open Go Go.ChangeShapes Go.WideShapes Go.ChangeAt Go.RowKit Go.Joins Go.Deep
set_option linter.unusedVariables false
set_option linter.unusedSimpArgs false

abbrev cmpB := Lib.compareBytes
theorem cmpB_self : ∀ a : List UInt8, cmpB a a = 0
  | [] => rfl
  | x :: a => by
    show (if x < x then (-1 : Int) else if x < x then 1 else cmpB a a) = 0
    rw [if_neg (UInt8.lt_irrefl x), if_neg (UInt8.lt_irrefl x), cmpB_self a]
theorem cmpB_flip : ∀ a b : List UInt8, cmpB b a = - cmpB a b
  | [], [] => rfl
  | [], _ :: _ => rfl
  | _ :: _, [] => rfl
  | x :: a, y :: b => by
    show (if y < x then (-1 : Int) else if x < y then 1 else cmpB b a) = - (if x < y then (-1 : Int) else if y < x then 1 else cmpB a b)
    by_cases h1 : x < y
    · have h2 : ¬ y < x := fun h => UInt8.lt_irrefl _ (UInt8.lt_trans h1 h)
      rw [if_neg h2, if_pos h1, if_pos h1]; rfl
    · by_cases h2 : y < x
      · rw [if_pos h2, if_neg h1, if_pos h2]
      · rw [if_neg h2, if_neg h1, if_neg h1, if_neg h2]
        exact cmpB_flip a b
theorem cmpB_zero : ∀ a b : List UInt8, cmpB a b = 0 → a = b
  | [], [], _ => rfl
  | [], _ :: _, h => by simp [cmpB, Lib.compareBytes] at h
  | _ :: _, [], h => by simp [cmpB, Lib.compareBytes] at h
  | x :: a, y :: b, h => by
    have h' : (if x < y then (-1 : Int) else if y < x then 1 else cmpB a b) = 0 := h
    by_cases h1 : x < y
    · rw [if_pos h1] at h'; omega
    · by_cases h2 : y < x
      · rw [if_neg h1, if_pos h2] at h'; omega
      · rw [if_neg h1, if_neg h2] at h'
        have hxy : x = y := by
          apply UInt8.toNat_inj.1
          have q1 : ¬ x.toNat < y.toNat := fun h => h1 (UInt8.lt_iff_toNat_lt.2 h)
          have q2 : ¬ y.toNat < x.toNat := fun h => h2 (UInt8.lt_iff_toNat_lt.2 h)
          omega
        rw [hxy, cmpB_zero a b h']
theorem cmpB_trans : ∀ a b c : List UInt8, cmpB a b < 0 → cmpB b c < 0 → cmpB a c < 0
  | [], [], _, h, _ => by simp [cmpB, Lib.compareBytes] at h
  | [], _ :: _, [], _, h => by simp [cmpB, Lib.compareBytes] at h
  | [], _ :: _, _ :: _, _, _ => by simp [cmpB, Lib.compareBytes]
  | _ :: _, [], _, h, _ => by simp [cmpB, Lib.compareBytes] at h
  | _ :: _, _ :: _, [], _, h => by simp [cmpB, Lib.compareBytes] at h
  | x :: a, y :: b, z :: c, h, g => by
    have h' : (if x < y then (-1 : Int) else if y < x then 1 else cmpB a b) < 0 := h
    have g' : (if y < z then (-1 : Int) else if z < y then 1 else cmpB b c) < 0 := g
    show (if x < z then (-1 : Int) else if z < x then 1 else cmpB a c) < 0
    simp only [UInt8.lt_iff_toNat_lt] at *
    by_cases h1 : x.toNat < y.toNat
    · by_cases g1 : y.toNat < z.toNat
      · rw [if_pos (by omega)]; omega
      · by_cases g2 : z.toNat < y.toNat
        · rw [if_neg g1, if_pos g2] at g'; omega
        · rw [if_pos (by omega)]; omega
    · by_cases h2 : y.toNat < x.toNat
      · rw [if_neg h1, if_pos h2] at h'; omega
      · rw [if_neg h1, if_neg h2] at h'
        by_cases g1 : y.toNat < z.toNat
        · rw [if_pos (by omega)]; omega
        · by_cases g2 : z.toNat < y.toNat
          · rw [if_neg g1, if_pos g2] at g'; omega
          · rw [if_neg g1, if_neg g2] at g'
            rw [if_neg (by omega), if_neg (by omega)]
            exact cmpB_trans a b c h' g'
/-- a precedes b bytewise. -/
def ltS (a b : ByteArray) : Bool := decide (cmpB a.data.toList b.data.toList < 0)
theorem ltS_irrefl (a : ByteArray) : ltS a a = false := by simp [ltS, cmpB_self]
theorem ltS_trans {a b c : ByteArray} (h : ltS a b = true) (g : ltS b c = true) : ltS a c = true := by
  simp only [ltS, decide_eq_true_eq] at *
  exact cmpB_trans _ _ _ h g
theorem ltS_total {a b : ByteArray} (h : ltS a b = false) (g : ltS b a = false) : a = b := by
  simp only [ltS, decide_eq_false_iff_not] at *
  have hf := cmpB_flip a.data.toList b.data.toList
  exact bytes_inj (cmpB_zero _ _ (by omega))
theorem ltS_ntrans {a b c : ByteArray} (h : ltS a b = false) (g : ltS b c = false) : ltS a c = false := by
  cases hc : ltS a c with
  | false => rfl
  | true =>
    exfalso
    cases hb : ltS b a with
    | true => have := ltS_trans hb hc; rw [g] at this; cases this
    | false =>
      have e := ltS_total h hb
      subst e
      rw [g] at hc; cases hc
theorem moved_sort {α : Type} [Inhabited α] (enc : α → Value) (w : World) (blk off m : Nat) (dk : Array α) (os : Array Obj) : Moved (fun k => k = blk) w (sortWorld enc w blk off m dk os) := by
  refine ⟨rfl, rfl, rfl, ?_, fun k hk hne => ?_⟩
  · simp [sortWorld, Go.Sort.grow, Go.Sort.putRow, Go.Sort.mapBlock, Go.Sort.ahead]
  · simp only [sortWorld, Go.Sort.grow, Go.Sort.putRow, Go.Sort.mapBlock, Go.Sort.ahead]
    rw [Array.getElem?_append_left (by simpa using hk), Array.getElem?_modify, if_neg (fun e => hne e.symm)]
end Go.Proofs.Ytlhliolknaopjaa

/-
  Keys: the library's sort at Order's comparison. Conditions: the list and the row of indices lie in memory, in different blocks.
-/
namespace Go.Proofs.Ytlhliolknaopjaa
open Go Go.ChangeShapes Go.WideShapes Go.ChangeAt Go.RowKit Go.Joins Go.Deep
set_option linter.unusedVariables false
set_option linter.unusedSimpArgs false

theorem extract_whole {α : Type} (a : Array α) (n : Nat) (h : a.size = n) : a.extract 0 n = a := by subst h; simp
/-- An index as its cell. -/
def encF {n : Nat} (x : Fin n) : Value := .int .i64 ((x.1 : Nat) : Int)
/-- The comparison of two indices. -/
def cfF (l : List ByteArray) (x y : Fin l.length) : Int := cmpB l[x].data.toList l[y].data.toList
theorem swo_cfF (l : List ByteArray) : Go.Sort.SWO (ltOf (cfF l)) where
  irrefl x := ltS_irrefl l[x]
  trans x y z h g := ltS_trans (a := l[x]) (b := l[y]) (c := l[z]) h g
  ntrans x y z h g := ltS_ntrans (a := l[x]) (b := l[y]) (c := l[z]) h g
theorem StrsAt.moved {S : Nat → Prop} {w w' : World} {v : Value} {ks : List ByteArray} (h : StrsAt w v ks) (hm : Moved S w w') (hS : ∀ a n c, v = .slice (some a) n c → ¬ S a.block) : StrsAt w' v ks := by
  obtain ⟨a, c, rfl, h2, h3, h4, h5⟩ := h
  refine ⟨a, c, rfl, h2, h3, h4, fun i s hs => ?_⟩
  obtain ⟨hz, b, off, e, hc⟩ := h5 i s hs
  subst e
  exact ⟨hz, b, off, rfl, hm.cell (p := ⟨b, off + i, none⟩) hc (hS ⟨b, off, none⟩ _ _ rfl)⟩
set_option maxRecDepth 100000 in
theorem sortfunc_any (l : List ByteArray) (h0 : 0 < l.length) (hl : l.length ≤ 1099511627776) (lv : Value) (bx blk : Nat) (w : World) (hs : StrsAt w lv l) (hb : w.cell? ⟨bx, 0, none⟩ = some lv) (hbx : bx ≠ blk) (hlv : ∀ a n c, lv = .slice (some a) n c → a.block ≠ blk)
    (hrow : ∀ j, j < l.length → w.cell? ⟨blk, j, none⟩ = some (.int .i64 (j : Int)) ∧ w.frozen? ⟨blk, j, none⟩ = false) (hblk : blk < w.heap.size) (cap : Nat) :
    Calls Try.prog 93 #[.slice (some ⟨blk, 0, none⟩) l.length cap, .func (.func 94) #[] #[.pointer (some ⟨bx, 0, none⟩)]] w fun r w' =>
      r = .returned (.tuple #[]) ∧ ∃ p : List (Fin l.length), p.Perm (List.finRange l.length) ∧ (∀ (i j : Nat) x y, i < j → p[i]? = some x → p[j]? = some y → ltS l[y] l[x] = false) ∧ (∀ (i : Nat) (x : Fin l.length), p[i]? = some x → w'.cell? ⟨blk, i, none⟩ = some (.int .i64 ((x.1 : Nat) : Int))) ∧ Moved (fun k => k = blk) w w' := by
  have : Inhabited (Fin l.length) := ⟨⟨0, h0⟩⟩
  have eg : ∀ args w, (callFunc 94 args).run Try.prog w = .ok (.enter 94 args) w := enters_of Try.func94 (by kernel_rfl) rfl
  have hd : ((List.finRange l.length).toArray).size = l.length := by simp
  have hcmp : CmpLays1 Try.prog 94 #[.pointer (some ⟨bx, 0, none⟩)] encF (cfF l) blk 0 ((List.finRange l.length).toArray).size w := by
    refine CmpReads.lays fun m os dk hk x y => ?_
    have hm := moved_sort (encF (n := l.length)) w blk 0 m dk os
    exact order1_any l lv bx x.1 y.1 l[x] l[y] (List.getElem?_eq_getElem x.2) (List.getElem?_eq_getElem y.2) _ (hs.moved hm (fun a n c e => hlv a n c e)) (hm.cell hb hbx)
  have hH : Go.Sort.Holds (encF (n := l.length)) w blk 0 (List.finRange l.length).toArray := by
    intro j hj
    rw [hd] at hj
    rw [getElem!_pos _ j (by simpa using hj), Nat.zero_add]
    simpa [encF] using hrow j hj
  have hcon := Try.slices_SortFunc (encF (n := l.length)) (fun _ => rfl) (cfF l) (swo_cfF l) 94 #[.pointer (some ⟨bx, 0, none⟩)] blk 0 cap (List.finRange l.length).toArray w eg hcmp hH hblk (by rw [hd]; omega)
  rw [hd] at hcon
  refine hcon.mono ?_
  rintro r w' ⟨rfl, d', n, os, hp, hsd, rfl⟩
  obtain ⟨hsz, _, hperm⟩ := hp
  have hdn : d'.size = l.length := hsz.trans hd
  refine ⟨rfl, d'.toList, ?_, fun i j x y hij hx hy => ?_, fun i x hx => ?_, moved_sort _ w blk 0 n d' os⟩
  · have e1 : d'.extract 0 l.length = d' := extract_whole _ _ hdn
    have e2 : (List.finRange l.length).toArray.extract 0 l.length = (List.finRange l.length).toArray := extract_whole _ _ hd
    rw [e1, e2] at hperm
    simpa using hperm
  · have hj := (List.getElem?_eq_some_iff.1 hy).1
    have hi := (List.getElem?_eq_some_iff.1 hx).1
    have h := hsd i j (Nat.zero_le _) hij (by simpa [hdn] using hj)
    rw [getElem!_pos d' j (by simpa using hj), getElem!_pos d' i (by simpa using hi)] at h
    have ex : d'[i]'(by simpa using hi) = x := by have := (List.getElem?_eq_some_iff.1 hx).2; simpa using this
    have ey : d'[j]'(by simpa using hj) = y := by have := (List.getElem?_eq_some_iff.1 hy).2; simpa using this
    rw [ex, ey] at h
    exact h
  · have hi := (List.getElem?_eq_some_iff.1 hx).1
    have h := (Go.Proofs.holds_sortWorld (encF (n := l.length)) w blk 0 n _ d' os hblk hH hsz i (by simpa using hi)).1
    rw [getElem!_pos d' i (by simpa using hi)] at h
    have ex : d'[i]'(by simpa using hi) = x := by have := (List.getElem?_eq_some_iff.1 hx).2; simpa using this
    rw [ex, Nat.zero_add] at h
    exact h
end Go.Proofs.Ytlhliolknaopjaa

/-
  Keys: Order. Conditions: the list lies in memory, at most 4096 keys.
-/
namespace Go.Proofs.Ytlhliolknaopjaa
open Go Go.ChangeShapes Go.WideShapes Go.ChangeAt Go.RowKit Go.Joins Go.Deep
set_option linter.unusedVariables false
set_option linter.unusedSimpArgs false

theorem Try.infoIntK : (Try.prog.info? 3).map (fun i => (i.zero, i.size, i.bytes)) = some (some (.int .i64 0), 1, 8) := by kernel_rfl
/-- The row of indices when k have been laid. -/
def upF (k j : Nat) : Value := if j < k then .int .i64 (j : Int) else .int .i64 0
/-- v holds the places of l's keys in increasing order. -/
def PlacesAt (w : World) (v : Value) (l : List ByteArray) : Prop :=
  ∃ (blk cap : Nat) (p : List (Fin l.length)), v = .slice (some ⟨blk, 0, none⟩) l.length cap ∧ p.Perm (List.finRange l.length) ∧ (∀ (i j : Nat) x y, i < j → p[i]? = some x → p[j]? = some y → ltS l[x] l[y] = true) ∧ (∀ (i : Nat) (x : Fin l.length), p[i]? = some x → w.cell? ⟨blk, i, none⟩ = some (.int .i64 ((x.1 : Nat) : Int))) ∧ cap = l.length
/-- What Order hands back. -/
def OrderOut (w : World) (l : List ByteArray) (r : Ending) (w' : World) : Prop :=
  Grew w w' ∧ ((¬ l.Nodup ∧ r = .returned (.tuple #[.slice none 0 0, .int .i64 71])) ∨ (l.Nodup ∧ ∃ v, r = .returned (.tuple #[v, .int .i64 0]) ∧ PlacesAt w' v l))
theorem perm_len {l : List ByteArray} {p : List (Fin l.length)} (h : p.Perm (List.finRange l.length)) : p.length = l.length := by rw [h.length_eq]; simp
theorem adj_nodup {l : List ByteArray} {p : List (Fin l.length)} (hp : p.Perm (List.finRange l.length)) {i : Nat} {x y : Fin l.length} (hx : p[i]? = some x) (hy : p[i + 1]? = some y) (e : l[x] = l[y]) : ¬ l.Nodup := by
  intro hn
  have hpn : p.Nodup := hp.nodup_iff.2 (List.nodup_finRange _)
  have hxy : x = y := by
    apply Fin.ext
    exact (List.getElem_inj hn).1 e
  have h1 := (List.getElem?_eq_some_iff.1 hx)
  have h2 := (List.getElem?_eq_some_iff.1 hy)
  obtain ⟨h1l, h1e⟩ := h1
  obtain ⟨h2l, h2e⟩ := h2
  have := (List.getElem_inj hpn (h₀ := h1l) (h₁ := h2l)).1 (by rw [h1e, h2e, hxy])
  omega
theorem adj_strict {l : List ByteArray} {p : List (Fin l.length)} (hs : ∀ (i j : Nat) x y, i < j → p[i]? = some x → p[j]? = some y → ltS l[y] l[x] = false) (ha : ∀ (i : Nat) x y, p[i]? = some x → p[i + 1]? = some y → ¬ l[x] = l[y]) :
    ∀ (i j : Nat) x y, i < j → p[i]? = some x → p[j]? = some y → ltS l[x] l[y] = true := by
  intro i j x y hij hx hy
  have step : ∀ (i : Nat) x y, p[i]? = some x → p[i + 1]? = some y → ltS l[x] l[y] = true := by
    intro i x y hx hy
    cases h : ltS l[x] l[y] with
    | true => rfl
    | false => exact absurd (ltS_total h (hs i (i + 1) x y (by omega) hx hy)) (ha i x y hx hy)
  induction j generalizing y with
  | zero => omega
  | succ j ih =>
    by_cases e : i = j
    · subst e; exact step i x y hx hy
    · have hj : j < p.length := by have := (List.getElem?_eq_some_iff.1 hy).1; omega
      exact ltS_trans (ih p[j] (by omega) (List.getElem?_eq_getElem hj) step) (step j p[j] y (List.getElem?_eq_getElem hj) hy)
theorem strict_nodup {l : List ByteArray} {p : List (Fin l.length)} (hp : p.Perm (List.finRange l.length)) (hs : ∀ (i j : Nat) x y, i < j → p[i]? = some x → p[j]? = some y → ltS l[x] l[y] = true) : l.Nodup := by
  refine List.pairwise_iff_getElem.2 fun i j hi hj hij he => ?_
  have mi : (⟨i, hi⟩ : Fin l.length) ∈ p := hp.mem_iff.2 (List.mem_finRange _)
  have mj : (⟨j, hj⟩ : Fin l.length) ∈ p := hp.mem_iff.2 (List.mem_finRange _)
  obtain ⟨a, ha, hae⟩ := List.mem_iff_getElem.1 mi
  obtain ⟨b, hb, hbe⟩ := List.mem_iff_getElem.1 mj
  have hab : a ≠ b := fun h => by subst h; rw [hae] at hbe; injection hbe with h; omega
  rcases Nat.lt_or_gt_of_ne hab with h | h
  · have := hs a b _ _ h (by rw [List.getElem?_eq_getElem ha, hae]) (by rw [List.getElem?_eq_getElem hb, hbe])
    have e2 : ltS l[i] l[j] = true := this
    rw [he, ltS_irrefl] at e2; cases e2
  · have := hs b a _ _ h (by rw [List.getElem?_eq_getElem hb, hbe]) (by rw [List.getElem?_eq_getElem ha, hae])
    have e2 : ltS l[j] l[i] = true := this
    rw [he, ltS_irrefl] at e2; cases e2
set_option maxRecDepth 100000 in
set_option maxHeartbeats 2000000 in
theorem order_any (l : List ByteArray) (hl : l.length ≤ 4096) (lv : Value) (w : World) (hs : StrsAt w lv l) :
    Calls Try.prog 68 #[lv] w fun r w' => OrderOut w l r w' := by
  have HS := Lib.hid hs
  obtain ⟨a, c, rfl, hz1, hz2, hz3, hz4⟩ := hs
  clear hz1 hz2 hz3 hz4
  have hmk := run_make_row' (P := Try.prog) 81 3 (.int .i64 0) 8 Try.underlying81 Try.infoIntK rfl .i64 .i64 l.length (by omega) (by omega)
  go_enter Try.func68, Try.ntmps68
  go_wp2_with fail
  have hbx := heap_alloc_new w (.cells #[.slice a l.length c] 24)
  have hg1 := (Grew.refl w).alloc (.cells #[.slice a l.length c] 24)
  have hs1 : (w.alloc (.cells #[.slice a l.length c] 24)).heap.size = w.heap.size + 1 := World.size_alloc _ _
  generalize (w.alloc (.cells #[.slice a l.length c] 24)) = w1 at *
  have hrow := World.rowIs_made w1 (.int .i64 0) l.length 3
  have hg2 := (Grew.refl w1).alloc (.cells (madeCells #[.int .i64 0] l.length) 3)
  rw [hs1] at hrow
  generalize (w1.alloc (.cells (madeCells #[.int .i64 0] l.length) 3)) = w2 at *
  obtain ⟨N, hN⟩ : ∃ N, w.heap.size = N := ⟨_, rfl⟩
  rw [hN] at hbx hrow ⊢
  have HBX := Lib.hid (hg2.heap hbx)
  have HG := Lib.hid (hg1.trans hg2)
  have HN := Lib.hid hN
  have HROW := Lib.hid hrow
  clear hmk hbx hg1 hg2 hs1 hrow hN
  go_loopw [12] (fun i wr => ∃ k : Nat, k ≤ l.length ∧ i = .int .i64 k ∧ Hid (wr.rowIs (N + 1) 3 l.length (upF k) ∧ Moved (fun g => g = N + 1) w2 wr)) (fun i _ => l.length - (intOf i).toNat)
  case atStart => exact ⟨0, Nat.zero_le _, rfl, by show _ ∧ _; exact ⟨HROW.out.congr (fun i _ => by simp [upF]), Moved.refl _ _⟩⟩
  case round =>
    obtain ⟨k, hk, rfl, HW⟩ := hrel
    by_cases hlt : k < l.length
    · have hc := HW.out.1.cell hlt
      have hf := HW.out.1.frozen k
      obtain ⟨u, hu⟩ : ∃ u, upF k k = .int .i64 u := ⟨0, by simp [upF]⟩
      rw [hu] at hc
      have hlti : (k : Int) < l.length := by omega
      go_wp2_with fail
      go_roundw
      case rel => exact ⟨k + 1, by omega, by go_num, by
        show _ ∧ _
        refine ⟨(HW.out.1.set k _).congr (fun i hi => ?_), HW.out.2.setCell (p := ⟨N + 1, k, none⟩) (fun _ => rfl) _⟩
        by_cases e : i = k
        · subst e; simp [upF]
        · simp only [upF, if_neg e]
          by_cases h : i < k
          · rw [if_pos h, if_pos (by omega)]
          · rw [if_neg h, if_neg (by omega)]⟩
      case measure => simp [intOf]; omega
    · obtain rfl : k = l.length := by omega
      have hm2 := HW.out.2
      have hgw : Grew w wr := Moved.fresh HG.out hm2 (fun g h => by have := HN.out; omega)
      have HGW := Lib.hid hgw
      have hbx : wr.heap[N]? = some (.cells #[.slice a l.length c] 24 (0, 0)) := hm2.heap HBX.out (by omega)
      have HBW := Lib.hid hbx
      have hsw : Hid (StrsAt wr (.slice a l.length c) l) := HS.out.grew hgw
      have hblk : Hid (N + 1 < wr.heap.size) := HW.out.1.lt
      have hlvb : Hid (∀ ad n c', Value.slice a l.length c = .slice (some ad) n c' → 0 < l.length → ad.block ≠ N + 1) := fun ad n c' e h0 => by
        injection e with e1 e2 e3
        obtain ⟨a', c'', e', _, _, _, h⟩ := HS.out
        injection e' with e1' _ _
        obtain ⟨_, b, off, e4, hc⟩ := h 0 l[0] (List.getElem?_eq_getElem h0)
        have hb := World.block_lt_of_cell? w _ hc
        have hN' := HN.out
        rw [← e1', e1] at e4
        injection e4 with e4
        subst e4
        simp only at hb ⊢
        omega
      have HROW2 : Hid (∀ j, j < l.length → wr.cell? ⟨N + 1, j, none⟩ = some (.int .i64 (j : Int)) ∧ wr.frozen? ⟨N + 1, j, none⟩ = false) := fun j hj => ⟨by rw [HW.out.1.cell hj]; simp [upF, hj], HW.out.1.frozen j⟩
      clear hm2 hgw hbx HW
      by_cases h0 : 0 < l.length
      · have HCALL : Hid (Calls Try.prog 93 #[.slice (some ⟨N + 1, 0, none⟩) l.length l.length, .func (.func 94) #[] #[.pointer (some ⟨N, 0, none⟩)]] wr _) := sortfunc_any l h0 (by omega) _ N (N + 1) wr hsw.out (row_cellT HBW.out 0 _ rfl) (by omega) (fun ad n c' e => hlvb.out ad n c' e h0) HROW2.out hblk.out l.length
        go_wp2_with fail
        refine HCALL.out.mono ?_
        rintro r w4 ⟨rfl, p, hp, hsd, hcl, hm4⟩
        have HP := Lib.hid hp
        have HSD := Lib.hid hsd
        have HCL := Lib.hid hcl
        have HG4 : Hid (Grew w w4) := Moved.fresh HGW.out hm4 (fun g h => by have := HN.out; omega)
        have HB4 := Lib.hid (hm4.heap HBW.out (by omega))
        have HPL : Hid (p.length = l.length) := perm_len hp
        clear hp hsd hcl hm4 HCALL hlvb HROW2 hsw
        go_wp2_with fail
        go_loopw [6] (fun i wr' => ∃ q : Nat, q < l.length ∧ i = .int .i64 ((q : Int) + 1) ∧ Hid ((∀ (i : Nat) x y, i + 1 < q + 1 → p[i]? = some x → p[i + 1]? = some y → ¬ l[x] = l[y]) ∧ Grew w4 wr')) (fun i _ => l.length - (intOf i).toNat)
        case atStart => exact ⟨0, h0, rfl, by show _ ∧ _; exact ⟨fun i x y h => by omega, Grew.refl _⟩⟩
        case round =>
          obtain ⟨q, hq, rfl, HW⟩ := hrel
          by_cases hlt : q + 1 < l.length
          · obtain ⟨x, hx⟩ : ∃ x, p[q]? = some x := ⟨_, List.getElem?_eq_getElem (by have := HPL.out; omega)⟩
            obtain ⟨y, hy⟩ : ∃ y, p[q + 1]? = some y := ⟨_, List.getElem?_eq_getElem (by have := HPL.out; omega)⟩
            have c1 := HW.out.2.cell (HCL.out q x hx)
            have c2 := HW.out.2.cell (HCL.out (q + 1) y hy)
            have bc := row_cellT (HW.out.2.heap HB4.out) 0 _ rfl
            obtain ⟨xi, hxl⟩ := x
            obtain ⟨yi, hyl⟩ := y
            obtain ⟨b, off, rfl, s1⟩ : ∃ b off, a = some ⟨b, off, none⟩ ∧ wr.cell? ⟨b, off + xi, none⟩ = some (.string l[xi]) := by
              obtain ⟨a', c', e', _, _, _, h⟩ := HS.out
              injection e' with e1 _ _
              obtain ⟨_, b, off, e4, hc⟩ := h xi l[xi] (List.getElem?_eq_getElem hxl)
              exact ⟨b, off, by rw [e1, e4], (HG4.out.trans HW.out.2).cell hc⟩
            have s2 : wr.cell? ⟨b, off + yi, none⟩ = some (.string l[yi]) := by
              obtain ⟨a', c', e', _, _, _, h⟩ := HS.out
              injection e' with e1 _ _
              obtain ⟨_, b', off', e4, hc⟩ := h yi l[yi] (List.getElem?_eq_getElem hyl)
              rw [← e1] at e4
              injection e4 with e4
              cases e4
              exact (HG4.out.trans HW.out.2).cell hc
            have HXY := Lib.hid (And.intro hx hy)
            obtain ⟨sx, hsx⟩ : ∃ s, l[xi] = s := ⟨_, rfl⟩
            obtain ⟨sy, hsy⟩ : ∃ s, l[yi] = s := ⟨_, rfl⟩
            rw [hsx] at s1
            rw [hsy] at s2
            have HSX := Lib.hid (And.intro hsx hsy)
            have hxi : (xi : Int) < l.length := by omega
            have hyi : (yi : Int) < l.length := by omega
            have hqi : (q : Int) + 1 < l.length := by omega
            have hqi2 : (q : Int) < l.length := by omega
            have hw1 : IntKind.i64.wrap ((q : Int) + 1 - 1) = q := by rw [IntKind.wrap_i64]; omega
            clear hx hy hsx hsy
            by_cases hxy : sx = sy
            · have hne : Hid (¬ l.Nodup) := adj_nodup HP.out HXY.out.1 HXY.out.2 (by show l[xi] = l[yi]; rw [HSX.out.1, HSX.out.2, hxy])
              have hbe : (sx.toList == sy.toList) = true := by rw [str_eq]; exact decide_eq_true hxy
              clear hxy
              go_wp2_with fail
              go_quiet (fail)
              go_wp2_with fail
              go_ret2
              exact ⟨(HG4.out.trans HW.out.2).drewN _, .inl ⟨hne.out, rfl⟩⟩
            · have hbe : (sx.toList == sy.toList) = false := by rw [str_eq]; exact decide_eq_false hxy
              have HNE := Lib.hid hxy
              clear hxy
              go_wp2_with fail
              go_quiet (fail)
              go_wp2_with fail
              go_roundw
              case rel => exact ⟨q + 1, by omega, by go_num, by
                show _ ∧ _
                refine ⟨fun i x y hi hx hy => ?_, HW.out.2.drewN _⟩
                by_cases e : i = q
                · subst e
                  rw [HXY.out.1] at hx
                  rw [HXY.out.2] at hy
                  injection hx with hx
                  injection hy with hy
                  subst hx hy
                  show ¬ l[xi] = l[yi]
                  rw [HSX.out.1, HSX.out.2]
                  exact HNE.out
                · exact HW.out.1 i x y (by omega) hx hy⟩
              case measure => simp [intOf]; omega
          · have hge : ¬ (q : Int) + 1 < l.length := by omega
            have hst : Hid (∀ (i j : Nat) x y, i < j → p[i]? = some x → p[j]? = some y → ltS l[x] l[y] = true) := adj_strict HSD.out (fun i x y hx hy => HW.out.1 i x y (by have := (List.getElem?_eq_some_iff.1 hy).1; have := HPL.out; omega) hx hy)
            go_wp2_with fail
            go_ret2
            exact ⟨HG4.out.trans HW.out.2, .inr ⟨strict_nodup HP.out hst.out, _, rfl, N + 1, l.length, p, rfl, HP.out, hst.out, fun i x hx => HW.out.2.cell (HCL.out i x hx), rfl⟩⟩
      · obtain rfl : l = [] := List.length_eq_zero_iff.1 (by omega)
        go_wp2_with fail
        refine (Try.slices_SortFunc_none (α := Nat) _ _ _ _).mono ?_
        rintro r w4 ⟨rfl, rfl⟩
        go_wp2_with fail
        go_loopw [6] (fun i wr' => i = .int .i64 1 ∧ Hid (Grew w wr')) (fun _ _ => 0)
        case atStart => exact ⟨rfl, HGW.out⟩
        case round =>
        obtain ⟨rfl, HW⟩ := hrel
        go_wp2_with fail
        go_ret2
        exact ⟨HW.out, .inr ⟨by simp, _, rfl, N + 1, 0, [], rfl, by simp, by simp, by simp, rfl⟩⟩
end Go.Proofs.Ytlhliolknaopjaa

/-
  Keys: Check, Less. Conditions: none.
-/
namespace Go.Proofs.Ytlhliolknaopjaa
open Go Go.ChangeShapes Go.WideShapes Go.ChangeAt Go.RowKit Go.Joins Go.Deep
set_option linter.unusedVariables false
set_option linter.unusedSimpArgs false

/-- Whether a key holds the byte 00, as an error. -/
def keyE (s : ByteArray) : Int := if 0 ≤ Lib.indexByte s.data.toList 0 then 70 else 0
set_option maxRecDepth 100000 in
theorem kcheck_any (s : ByteArray) (w : World) : Calls Try.prog 99 #[.string s] w fun r w' => r = .returned (.int .i64 (keyE s)) ∧ w = w' := by
  have hc := Try.strings_IndexByte s 0 w
  rw [show ((0 : Int).toNat.toUInt8) = 0 from rfl] at hc
  have HE : Hid (keyE s = if 0 ≤ Lib.indexByte s.data.toList 0 then 70 else 0) := rfl
  generalize Lib.indexByte s.data.toList 0 = q at *
  have HC := Lib.hid hc
  clear hc
  by_cases hq : 0 ≤ q
  · have H2 : Hid (keyE s = 70) := by show _ = _; rw [HE.out, if_pos hq]
    go_enter Try.func99, Try.ntmps99
    go_wp2_with fail
    refine HC.out.mono ?_
    rintro r w' ⟨rfl, rfl⟩
    go_wp2_with fail
    go_ret
    exact ⟨by rw [H2.out]; rfl, rfl⟩
  · have H2 : Hid (keyE s = 0) := by show _ = _; rw [HE.out, if_neg hq]
    go_enter Try.func99, Try.ntmps99
    go_wp2_with fail
    refine HC.out.mono ?_
    rintro r w' ⟨rfl, rfl⟩
    go_wp2_with fail
    go_ret
    exact ⟨by rw [H2.out]; rfl, rfl⟩
theorem bytesLess_eq : ∀ a b : List UInt8, Op.bytesLess a b = decide (cmpB a b < 0)
  | [], [] => by simp [Op.bytesLess, cmpB, Lib.compareBytes]
  | [], _ :: _ => by simp [Op.bytesLess, cmpB, Lib.compareBytes]
  | _ :: _, [] => by simp [Op.bytesLess, cmpB, Lib.compareBytes]
  | x :: a, y :: b => by
    have ih := bytesLess_eq a b
    have hc : cmpB (x :: a) (y :: b) = if x < y then (-1 : Int) else if y < x then 1 else cmpB a b := rfl
    rw [hc]
    unfold Op.bytesLess
    by_cases h1 : x < y
    · simp [h1]
    · by_cases h2 : y < x
      · have h3 : ¬ x = y := fun e => by subst e; exact UInt8.lt_irrefl _ h2
        simp [h1, h2, h3]
      · have h3 : x = y := by
          apply UInt8.toNat_inj.1
          have q1 : ¬ x.toNat < y.toNat := fun h => h1 (UInt8.lt_iff_toNat_lt.2 h)
          have q2 : ¬ y.toNat < x.toNat := fun h => h2 (UInt8.lt_iff_toNat_lt.2 h)
          omega
        simp [h1, h2, h3, ih]
theorem less_eq (a b : ByteArray) : Op.bytesLess a.toList b.toList = ltS a b := by
  rw [ByteArray.toList_eq, ByteArray.toList_eq, bytesLess_eq]; rfl
set_option maxRecDepth 100000 in
theorem kless_any (a b : ByteArray) (w : World) : Calls Try.prog 102 #[.string a, .string b] w fun r w' => r = .returned (.bool (ltS a b)) ∧ w = w' := by
  go_enter Try.func102, Try.ntmps102
  go_wp2_with fail
  go_ret
  refine ⟨?_, rfl⟩
  show Ending.returned (.bool (Op.bytesLess a.toList b.toList)) = _
  rw [less_eq]
end Go.Proofs.Ytlhliolknaopjaa

/-
  Keys: Find. Conditions: the list lies in memory.
-/
namespace Go.Proofs.Ytlhliolknaopjaa
open Go Go.ChangeShapes Go.WideShapes Go.ChangeAt Go.RowKit Go.Joins Go.Deep
set_option linter.unusedVariables false
set_option linter.unusedSimpArgs false

/-- Binary search. -/
def halves (l : List ByteArray) (k : ByteArray) (lo hi : Nat) : Nat :=
  if lo < hi then
    if ltS (l.getD (lo + (hi - lo) / 2) ByteArray.empty) k then halves l k (lo + (hi - lo) / 2 + 1) hi else halves l k lo (lo + (hi - lo) / 2)
  else lo
termination_by hi - lo
decreasing_by all_goals omega
/-- What Find answers. -/
def findK (l : List ByteArray) (k : ByteArray) : Int × Bool := if l[halves l k 0 l.length]? = some k then ((halves l k 0 l.length : Nat), true) else (0, false)
end Go.Proofs.Ytlhliolknaopjaa

/-
  Keys: the reference's Less. Conditions: none beyond the lengths.
-/
namespace Go.Proofs.Ytlhliolknaopjaa
open Go Go.ChangeShapes Go.WideShapes Go.ChangeAt Go.RowKit Go.Joins Go.Deep
set_option linter.unusedVariables false
set_option linter.unusedSimpArgs false

/-- Where two lists first differ. -/
theorem cmpB_take (a b : List UInt8) (k : Nat) (h : a.take k = b.take k) : cmpB a b = cmpB (a.drop k) (b.drop k) := by
  induction k generalizing a b with
  | zero => simp
  | succ k ih =>
    cases a with
    | nil => cases b with
      | nil => simp
      | cons y b => simp at h
    | cons x a => cases b with
      | nil => simp at h
      | cons y b =>
        simp at h
        obtain ⟨rfl, h⟩ := h
        show (if x < x then (-1 : Int) else if x < x then 1 else cmpB a b) = cmpB (a.drop k) (b.drop k)
        rw [if_neg (UInt8.lt_irrefl x), if_neg (UInt8.lt_irrefl x), ih a b h]
theorem ba_get (a : ByteArray) (k : Nat) (h : k < a.size) : a.data.toList[k]? = some a[k] := by
  rw [List.getElem?_eq_getElem (by simpa using h)]; rfl
theorem ba_len (a : ByteArray) : a.data.toList.length = a.size := by simp
theorem ltS_at (a b : ByteArray) (k : Nat) (h1 : k < a.size) (h2 : k < b.size) (ht : a.data.toList.take k = b.data.toList.take k) (hne : ¬ a[k] = b[k]) : ltS a b = decide ((a[k].toNat : Int) < (b[k].toNat : Int)) := by
  unfold ltS
  rw [cmpB_take _ _ k ht]
  obtain ⟨hl1, e1⟩ := List.getElem?_eq_some_iff.1 (ba_get a k h1)
  obtain ⟨hl2, e2⟩ := List.getElem?_eq_some_iff.1 (ba_get b k h2)
  rw [List.drop_eq_getElem_cons hl1, List.drop_eq_getElem_cons hl2, e1, e2]
  show decide ((if a[k] < b[k] then (-1 : Int) else if b[k] < a[k] then 1 else _) < 0) = _
  have hnn : ¬ a[k].toNat = b[k].toNat := fun e => hne (UInt8.toNat_inj.1 e)
  by_cases h : a[k] < b[k]
  · have := UInt8.lt_iff_toNat_lt.1 h
    rw [if_pos h, decide_eq_true (by omega), decide_eq_true (by omega)]
  · have h' : ¬ a[k].toNat < b[k].toNat := fun e => h (UInt8.lt_iff_toNat_lt.2 e)
    rw [if_neg h, if_pos (UInt8.lt_iff_toNat_lt.2 (by omega)), decide_eq_false (by omega), decide_eq_false (by omega)]
theorem ltS_end (a b : ByteArray) (k : Nat) (h1 : k ≤ a.size) (h2 : k ≤ b.size) (ht : a.data.toList.take k = b.data.toList.take k) (hk : k = a.size ∨ k = b.size) : ltS a b = decide ((a.size : Int) < (b.size : Int)) := by
  unfold ltS
  rw [cmpB_take _ _ k ht]
  by_cases ha : k = a.size
  · rw [List.drop_eq_nil_iff.2 (by rw [ba_len]; omega)]
    cases hd : b.data.toList.drop k with
    | nil =>
      have := List.drop_eq_nil_iff.1 hd
      rw [ba_len] at this
      rw [decide_eq_false (by simp [cmpB, Lib.compareBytes]), decide_eq_false (by omega)]
    | cons y r =>
      have hlt : k < b.size := by
        have h3 := congrArg List.length hd
        rw [List.length_drop, ba_len] at h3
        simp at h3; omega
      rw [decide_eq_true (by simp [cmpB, Lib.compareBytes]), decide_eq_true (by omega)]
  · have hkb : k = b.size := by omega
    rw [List.drop_eq_nil_iff.2 (show b.data.toList.length ≤ k by rw [ba_len]; omega)]
    have : ¬ cmpB (a.data.toList.drop k) [] < 0 := by cases a.data.toList.drop k <;> simp [cmpB, Lib.compareBytes]
    rw [decide_eq_false this, decide_eq_false (by omega)]
theorem drewN_more {w wr : World} {n : Nat} (h : ∃ q, wr = w.drewN q) : ∃ q, wr.drewN n = w.drewN q := by
  obtain ⟨q, rfl⟩ := h
  exact ⟨q + n, by simp [World.drewN, Nat.add_assoc]⟩
set_option maxRecDepth 100000 in
set_option maxHeartbeats 1000000 in
theorem rless_any (a b : ByteArray) (w : World) (ha : lenok a.size) (hb : lenok b.size) : Calls Try.prog 107 #[.string a, .string b] w fun r w' => r = .returned (.bool (ltS a b)) ∧ ∃ q, w' = w.drewN q := by
  unfold lenok at ha hb
  go_enter Try.func107, Try.ntmps107
  go_wp2_with fail
  go_loopw [5] (fun i wr => ∃ k : Nat, k ≤ a.size ∧ k ≤ b.size ∧ i = .int .i64 k ∧ Hid (a.data.toList.take k = b.data.toList.take k ∧ ∃ q, wr = w.drewN q)) (fun i _ => a.size - (intOf i).toNat)
  case atStart => exact ⟨0, by omega, by omega, rfl, by show _ ∧ _; exact ⟨by simp, 0, rfl⟩⟩
  case round =>
    obtain ⟨k, hka, hkb, rfl, HW⟩ := hrel
    by_cases h1 : k < a.size
    · by_cases h2 : k < b.size
      · have h1i : (k : Int) < a.size := by omega
        have h2i : (k : Int) < b.size := by omega
        by_cases hxy : a[k] = b[k]
        · have HXY := Lib.hid hxy
          have hq : ((a[k].toNat : Int) != (b[k].toNat : Int)) = false := by rw [hxy]; simp
          clear hxy
          go_wp2_with fail
          go_quiet (fail)
          go_wp2_with fail
          go_roundw
          case rel => exact ⟨k + 1, by omega, by omega, by go_num, by
            show _ ∧ _
            exact ⟨by rw [List.take_add_one, List.take_add_one, HW.out.1, ba_get a k h1, ba_get b k h2, HXY.out], drewN_more HW.out.2⟩⟩
          case measure => simp [intOf]; omega
        · have HL : Hid (ltS a b = decide (a[k].toNat < b[k].toNat)) := by show _ = _; rw [ltS_at a b k h1 h2 HW.out.1 hxy]; simp only [Int.ofNat_lt]
          have hq : ((a[k].toNat : Int) != (b[k].toNat : Int)) = true := by
            simp only [bne_iff_ne, ne_eq, Int.natCast_inj]
            exact fun e => hxy (UInt8.toNat_inj.1 e)
          clear hxy
          go_wp2_with fail
          go_quiet (fail)
          go_wp2_with fail
          go_quiet (fail)
          go_wp2_with fail
          go_ret
          exact ⟨by rw [HL.out]; rfl, drewN_more (drewN_more HW.out.2)⟩
      · have HL : Hid (ltS a b = decide (a.size < b.size)) := by show _ = _; rw [ltS_end a b k hka hkb HW.out.1 (by omega)]; simp only [Int.ofNat_lt]
        have h1i : (k : Int) < a.size := by omega
        have h2i : ¬ (k : Int) < b.size := by omega
        go_wp2_with fail
        go_ret
        exact ⟨by rw [HL.out]; rfl, HW.out.2⟩
    · have HL : Hid (ltS a b = decide (a.size < b.size)) := by show _ = _; rw [ltS_end a b k hka hkb HW.out.1 (by omega)]; simp only [Int.ofNat_lt]
      have h1i : ¬ (k : Int) < a.size := by omega
      go_wp2_with fail
      go_ret
      exact ⟨by rw [HL.out]; rfl, HW.out.2⟩
end Go.Proofs.Ytlhliolknaopjaa

/-
  Keys: the reference's Find. Conditions: the list lies in memory.
-/
namespace Go.Proofs.Ytlhliolknaopjaa
open Go Go.ChangeShapes Go.WideShapes Go.ChangeAt Go.RowKit Go.Joins Go.Deep
set_option linter.unusedVariables false
set_option linter.unusedSimpArgs false

end Go.Proofs.Ytlhliolknaopjaa

/-
  Keys: the reference's Zero and Check. Conditions: the string's length fits.
-/
namespace Go.Proofs.Ytlhliolknaopjaa
open Go Go.ChangeShapes Go.WideShapes Go.ChangeAt Go.RowKit Go.Joins Go.Deep
set_option linter.unusedVariables false
set_option linter.unusedSimpArgs false

theorem ba_snoc (s : ByteArray) (k : Nat) (h : k < s.size) : s.data.toList.take (k + 1) = s.data.toList.take k ++ [s[k]] := by
  rw [List.take_add_one, ba_get s k h]; rfl
set_option maxRecDepth 100000 in
set_option maxHeartbeats 1000000 in
theorem rzero_any (s : ByteArray) (w : World) (hs : lenok s.size) : Calls Try.prog 115 #[.string s] w fun r w' => r = .returned (.bool (zeroB s)) ∧ w' = w := by
  unfold lenok at hs
  go_enter Try.func115, Try.ntmps115
  go_wp2_with fail
  go_loop [3] (fun i => ∃ k : Nat, k ≤ s.size ∧ i = .int .i64 k ∧ Hid ((0 : UInt8) ∉ s.data.toList.take k)) (fun i => s.size - (intOf i).toNat)
  case atStart => exact ⟨0, Nat.zero_le _, rfl, by show _ ∉ _; simp⟩
  case round =>
    obtain ⟨k, hk, rfl, HW⟩ := hrel
    by_cases hlt : k < s.size
    · have hlti : (k : Int) < s.size := by omega
      by_cases h0 : s[k] = 0
      · have HZ : Hid (zeroB s = true) := by
          show _ = _
          exact decide_eq_true (List.mem_of_getElem? (by rw [ba_get s k hlt, h0]))
        have hq : ((s[k].toNat : Int) == 0) = true := by rw [h0]; rfl
        clear h0
        go_wp2_with fail
        go_ret
        exact ⟨by rw [HZ.out]; rfl, rfl⟩
      · have hq : ((s[k].toNat : Int) == 0) = false := by
          simp only [beq_eq_false_iff_ne, ne_eq]
          exact fun e => h0 (UInt8.toNat_inj.1 (by simpa using e))
        have HN := Lib.hid h0
        clear h0
        go_wp2_with fail
        go_round
        case rel => exact ⟨k + 1, by omega, by go_num, by
          show _ ∉ _
          rw [ba_snoc s k hlt]
          intro hm
          rcases List.mem_append.1 hm with hm | hm
          · exact HW.out hm
          · simp at hm; exact HN.out hm.symm⟩
        case measure => simp [intOf]; omega
    · have HZ : Hid (zeroB s = false) := by
        show _ = _
        have h := HW.out
        rw [List.take_of_length_le (by rw [ba_len]; omega)] at h
        exact decide_eq_false h
      go_wp2_with fail
      go_ret
      exact ⟨by rw [HZ.out]; rfl, rfl⟩
theorem keyE_eq (s : ByteArray) : keyE s = if zeroB s = true then 70 else 0 := by
  have h := Lib.contains_iff_indexByte s.data.toList 0
  unfold keyE zeroB
  by_cases hm : (0 : UInt8) ∈ s.data.toList
  · have h1 : s.data.toList.contains 0 = true := List.contains_iff_mem.2 hm
    rw [h1] at h
    rw [if_pos (of_decide_eq_true h.symm), if_pos (decide_eq_true hm)]
  · have h1 : s.data.toList.contains 0 = false := by rw [Bool.eq_false_iff]; exact fun e => hm (List.contains_iff_mem.1 e)
    rw [h1] at h
    rw [if_neg (of_decide_eq_false h.symm), if_neg (by simp [hm])]
set_option maxRecDepth 100000 in
theorem rcheck_any (s : ByteArray) (w : World) (hs : lenok s.size) : Calls Try.prog 106 #[.string s] w fun r w' => r = .returned (.int .i64 (keyE s)) ∧ w' = w := by
  have HC := Lib.hid (rzero_any s w hs)
  have HE := Lib.hid (keyE_eq s)
  cases hz : zeroB s with
  | true =>
    rw [hz] at HC HE
    have H2 : Hid (keyE s = 70) := HE.out
    clear hz
    go_enter Try.func106, Try.ntmps106
    go_wp2_with fail
    refine HC.out.mono ?_
    rintro r w' ⟨rfl, rfl⟩
    go_wp2_with fail
    go_ret
    exact ⟨by rw [H2.out]; rfl, rfl⟩
  | false =>
    rw [hz] at HC HE
    have H2 : Hid (keyE s = 0) := HE.out
    clear hz
    go_enter Try.func106, Try.ntmps106
    go_wp2_with fail
    refine HC.out.mono ?_
    rintro r w' ⟨rfl, rfl⟩
    go_wp2_with fail
    go_ret
    exact ⟨by rw [H2.out]; rfl, rfl⟩
end Go.Proofs.Ytlhliolknaopjaa

/-
  Denote, plain: what the program computes of bytes, references and trees.
-/
namespace Go.Proofs.Ytlhliolknaopjaa
open Go Go.ChangeShapes Go.WideShapes Go.ChangeAt Go.RowKit Go.Joins Go.Deep
set_option linter.unusedVariables false
set_option linter.unusedSimpArgs false

def Tr.fn : Tr → Int | .mk _ n _ _ _ _ => n
def Tr.fu : Tr → Int | .mk _ _ u _ _ _ => u
def Tr.fs : Tr → ByteArray | .mk _ _ _ s _ _ => s
def EMB : ByteArray := ⟨#[]⟩
/-- num: the number at an offset, whether it is one. -/
def numF (d : List UInt8) (at_ w : Int) : Int × Bool := (min (loadF d at_ w).1 9007199254740992, decide ((loadF d at_ w).2 = 0) && decide ((loadF d at_ w).1 ≤ 9007199254740992))
def bareF (t : Tr) (k n u : Int) (s : ByteArray) : Bool := decide (t.kind = k) && decide (t.fn = n) && decide (t.fu = u) && decide (t.fs = s) && decide (t.keys.length = 0) && decide (t.kids.length = 0)
def numberF (d : List UInt8) (at_ w sg un : Int) (t : Tr) : Bool :=
  if (loadF d at_ w).2 ≠ 0 then false else if t.kind = sg then bareF t sg (loadIntF d at_ w).1 0 EMB else decide (t.kind = un) && bareF t un 0 (loadF d at_ w).1 EMB
def hasF (d : List UInt8) (at_ : Int) (s : ByteArray) : Bool := decide (0 ≤ at_) && decide ((s.size : Int) ≤ d.length - at_) && decide ((d.drop at_.toNat).take s.size = s.data.toList)
def nullF (d : List UInt8) (pos par : Int) (t : Tr) : Bool := decide ((loadF d pos par).2 = 0) && bareF t 1 0 0 EMB
def intF (d : List UInt8) (pos par : Int) (t : Tr) : Bool := decide (t.kind = 3) && numberF d pos par 3 4 t
def uintF (d : List UInt8) (pos par : Int) (t : Tr) : Bool := decide (t.kind = 4) && numberF d pos par 3 4 t
def boolF (d : List UInt8) (pos par : Int) (t : Tr) : Bool := decide ((loadF d pos par).2 = 0) && bareF t 2 (if (loadF d pos par).1 = 0 then 0 else 1) 0 EMB
def ends (s : ByteArray) : ByteArray := s ++ ⟨#[0]⟩
def keyF (d : List UInt8) (at_ : Int) (t : Tr) : Bool := bareF t 5 0 0 t.fs && decide (keyE t.fs = 0) && hasF d at_ (ends t.fs)
def textF (d : List UInt8) (typ width at_ : Int) (t : Tr) : Bool :=
  bareF t (if typ = 5 then 6 else 7) 0 0 t.fs && (numF d (at_ - width) width).2 && decide (at_ % width = 0) && decide ((numF d (at_ - width) width).1 = t.fs.size) && hasF d at_ (if typ = 5 then ends t.fs else t.fs)
def apartF (d : List UInt8) (typ width at_ : Int) (t : Tr) : Bool := decide (t.kind = if typ = 6 then 8 else 9) && decide (at_ % width = 0) && numberF d at_ width 8 9 t
/-- The bytes lie in memory. -/
def DocAt (w : World) (v : Value) (d : List UInt8) : Prop := BytesAt w v d ∧ d.length ≤ 1048576 ∧ ∀ ad n c, v = .slice (some ad) n c → ad.block < w.heap.size ∧ ∃ bl off, ad = ⟨bl, off, none⟩
theorem DocAt.grew {w w' : World} {v : Value} {d : List UInt8} (h : DocAt w v d) (hg : Grew w w') : DocAt w' v d := ⟨h.1.grew hg, h.2.1, fun ad n c e => ⟨Nat.lt_of_lt_of_le (h.2.2 ad n c e).1 hg.size, (h.2.2 ad n c e).2⟩⟩
theorem DocAt.form {w : World} {v : Value} {d : List UInt8} (h : DocAt w v d) : ∃ a c, v = .slice a d.length c ∧ d.length ≤ c := by
  obtain ⟨⟨a, c, e, h1, _⟩, _⟩ := h; exact ⟨a, c, e, h1⟩
theorem loadF_pos (d : List UInt8) (at_ w : Int) : 0 ≤ (loadF d at_ w).1 ∧ (loadF d at_ w).1 ≤ 18446744073709551615 ∧ ((loadF d at_ w).2 ≠ 0 → (loadF d at_ w).1 = 0) := by
  by_cases h : (loadF d at_ w).2 = 0
  · obtain ⟨hx, h0, h1⟩ := loadF_ok h
    refine ⟨h0, ?_, fun h' => absurd h h'⟩
    rcases isW_cases hx with rfl | rfl | rfl | rfl <;> (simp at h1; omega)
  · have e : (loadF d at_ w).1 = 0 := by
      unfold loadF at h ⊢
      split
      · rename_i hx
        rw [if_pos hx] at h
        split
        · rfl
        · rename_i hr; rw [if_neg hr] at h; simp at h
      · rfl
    rw [e]; exact ⟨by omega, by omega, fun _ => rfl⟩
end Go.Proofs.Ytlhliolknaopjaa

/-
  Denote: the small functions. Conditions: the bytes, the tree lie in memory.
-/
namespace Go.Proofs.Ytlhliolknaopjaa
open Go Go.ChangeShapes Go.WideShapes Go.ChangeAt Go.RowKit Go.Joins Go.Deep
set_option linter.unusedVariables false
set_option linter.unusedSimpArgs false

set_option maxRecDepth 100000 in
set_option maxHeartbeats 4000000 in
theorem dnum_any (d : List UInt8) (dv : Value) (at_ x : Int) (w : World) (hD : DocAt w dv d) (ha : i64ok at_) : Calls Try.prog 49 #[dv, .int .i64 at_, .int .i64 x] w fun r w' => r = .returned (.tuple #[.int .i64 (numF d at_ x).1, .bool (numF d at_ x).2]) ∧ Grew w w' := by
  have HL := Lib.hid (loadD_any dv d hD.1 (by have := hD.2.1; omega) at_ x ha (fun ad n c e => (hD.2.2 ad n c e).1))
  have hp := loadF_pos d at_ x
  unfold numF
  generalize loadF d at_ x = q at *
  obtain ⟨u, e⟩ := q
  simp only at HL hp ⊢
  obtain ⟨a, c, rfl, _⟩ := hD.form
  clear hD
  obtain ⟨h0, h1, h2⟩ := hp
  by_cases he : e = 0
  · subst he
    clear h2
    by_cases hu : u ≤ 9007199254740992
    · have hm : min u 9007199254740992 = u := by omega
      have hw : IntKind.i64.wrap u = u := by rw [IntKind.wrap_i64]; omega
      rw [hm]
      have HU : Hid (decide (u ≤ 9007199254740992) = true) := decide_eq_true hu
      go_enter Try.func49, Try.ntmps49
      go_wp2_with fail
      refine HL.out.mono ?_
      rintro r w' ⟨rfl, hg⟩
      have HG := Lib.hid hg
      clear hg
      go_wp2
      go_ret2
      exact ⟨by rw [HU.out]; rfl, HG.out⟩
    · have hm : min u 9007199254740992 = 9007199254740992 := by omega
      rw [hm]
      have HU : Hid (decide (u ≤ 9007199254740992) = false) := decide_eq_false hu
      go_enter Try.func49, Try.ntmps49
      go_wp2_with fail
      refine HL.out.mono ?_
      rintro r w' ⟨rfl, hg⟩
      have HG := Lib.hid hg
      clear hg
      go_wp2
      go_ret2
      exact ⟨by rw [HU.out]; rfl, HG.out⟩
  · have e0 := h2 he
    subst e0
    have hb : (e == 0) = false := by simpa using he
    have HE : Hid (decide (e = 0) = false) := decide_eq_false he
    clear he h2 h0 h1
    go_enter Try.func49, Try.ntmps49
    go_wp2_with fail
    refine HL.out.mono ?_
    rintro r w' ⟨rfl, hg⟩
    have HG := Lib.hid hg
    clear hg
    go_wp2
    go_ret2
    exact ⟨by rw [HE.out]; rfl, HG.out⟩
set_option maxRecDepth 100000 in
set_option maxHeartbeats 4000000 in
theorem bare_any (t : Tr) (tv : Value) (k2 n2 u2 : Int) (s2 : ByteArray) (w : World) (hn : NodeAt w t tv) : Calls Try.prog 81 #[tv, .agg #[.int .i64 k2, .int .i64 n2, .int .u64 u2, .string s2, .slice none 0 0, .slice none 0 0]] w fun r w' => r = .returned (.bool (bareF t k2 n2 u2 s2)) ∧ Grew w w' := by
  obtain ⟨k, n, u, s, keys, l⟩ := t
  simp only [NodeAt] at hn
  obtain ⟨_, kv, lv, vs, rfl, hks, hrl, hkids⟩ := hn
  have hkl := hkids.length
  obtain ⟨a4, c4, rfl, _, hc4, _⟩ := hks
  obtain ⟨a5, c5, rfl, _, hc5, _⟩ := hrl
  rw [hkl]
  have hk1 : keys.length ≤ 9223372036854775807 := by unfold lenok at hc4; omega
  have hl1 : l.length ≤ 9223372036854775807 := by unfold lenok at hc5; omega
  clear hkids hkl hc4 hc5
  by_cases h0 : k = k2
  rotate_left
  · have HF : Hid (bareF (.mk k n u s keys l) k2 n2 u2 s2 =  false) := by show _ = _; simp [bareF, Tr.kind, Tr.fn, Tr.fu, Tr.fs, Tr.keys, Tr.kids, h0]
    rw [HF.out]
    have hB : (k == k2) = false := by simp [h0]
    clear h0
    go_enter Try.func81, Try.ntmps81
    go_wp2_with fail
    go_ret
    exact ⟨rfl, ((Grew.refl w).alloc _).alloc _⟩
  subst h0
  by_cases h1 : n = n2
  rotate_left
  · have HF : Hid (bareF (.mk k n u s keys l) k n2 u2 s2 =  false) := by show _ = _; simp [bareF, Tr.kind, Tr.fn, Tr.fu, Tr.fs, Tr.keys, Tr.kids, h1]
    rw [HF.out]
    have hB : (n == n2) = false := by simp [h1]
    clear h1
    go_enter Try.func81, Try.ntmps81
    go_wp2_with fail
    go_ret
    exact ⟨rfl, ((Grew.refl w).alloc _).alloc _⟩
  subst h1
  by_cases h2 : u = u2
  rotate_left
  · have HF : Hid (bareF (.mk k n u s keys l) k n u2 s2 =  false) := by show _ = _; simp [bareF, Tr.kind, Tr.fn, Tr.fu, Tr.fs, Tr.keys, Tr.kids, h2]
    rw [HF.out]
    have hB : (u == u2) = false := by simp [h2]
    clear h2
    go_enter Try.func81, Try.ntmps81
    go_wp2_with fail
    go_ret
    exact ⟨rfl, ((Grew.refl w).alloc _).alloc _⟩
  subst h2
  by_cases h3 : s = s2
  rotate_left
  · have HF : Hid (bareF (.mk k n u s keys l) k n u s2 =  false) := by show _ = _; simp [bareF, Tr.kind, Tr.fn, Tr.fu, Tr.fs, Tr.keys, Tr.kids, h3]
    rw [HF.out]
    have hB : (s.toList == s2.toList) = false := by rw [str_eq]; exact decide_eq_false h3
    clear h3
    go_enter Try.func81, Try.ntmps81
    go_wp2_with fail
    go_ret
    exact ⟨rfl, ((Grew.refl w).alloc _).alloc _⟩
  subst h3
  by_cases h4 : keys.length = 0
  rotate_left
  · have HF : Hid (bareF (.mk k n u s keys l) k n u s =  false) := by show _ = _; simp [bareF, Tr.kind, Tr.fn, Tr.fu, Tr.fs, Tr.keys, Tr.kids, h4]
    rw [HF.out]
    have hB : ¬ ((keys.length : Nat) : Int) = 0 := by omega
    have hB2 : (((keys.length : Nat) : Int) == 0) = false := by rw [beq_eq_false_iff_ne]; omega
    clear h4
    go_enter Try.func81, Try.ntmps81
    go_wp2_with fail
    go_ret
    exact ⟨rfl, ((Grew.refl w).alloc _).alloc _⟩
  by_cases h5 : l.length = 0
  rotate_left
  · have HF : Hid (bareF (.mk k n u s keys l) k n u s =  false) := by show _ = _; simp [bareF, Tr.kind, Tr.fn, Tr.fu, Tr.fs, Tr.keys, Tr.kids, h5]
    rw [HF.out]
    have hB : ¬ ((l.length : Nat) : Int) = 0 := by omega
    have hB2 : (((l.length : Nat) : Int) == 0) = false := by rw [beq_eq_false_iff_ne]; omega
    clear h5
    go_enter Try.func81, Try.ntmps81
    go_wp2_with fail
    go_ret
    exact ⟨rfl, ((Grew.refl w).alloc _).alloc _⟩
  have HF : Hid (bareF (.mk k n u s keys l) k n u s = true) := by show _ = _; simp [bareF, Tr.kind, Tr.fn, Tr.fu, Tr.fs, Tr.keys, Tr.kids, h4, h5]
  rw [HF.out, h4, h5]
  clear h4 h5 hk1 hl1
  go_enter Try.func81, Try.ntmps81
  go_wp2_with fail
  go_ret
  exact ⟨rfl, ((Grew.refl w).alloc _).alloc _⟩
theorem kind_of {w : World} {t : Tr} {k n u : Int} {s : ByteArray} {a4 a5 : Value} (h : NodeAt w t (.agg #[.int .i64 k, .int .i64 n, .int .u64 u, .string s, a4, a5])) : k = t.kind ∧ n = t.fn ∧ u = t.fu ∧ s = t.fs := by
  cases t
  simp only [NodeAt] at h
  obtain ⟨_, kv, lv, vs, e, _⟩ := h
  injection e with e
  simp only [Array.mk.injEq, List.cons.injEq, Value.int.injEq, Value.string.injEq] at e
  exact ⟨e.1.2, e.2.1.2, e.2.2.1.2, e.2.2.2.1⟩
theorem ends_run (s : ByteArray) : s ++ ⟨#[0]⟩ = ends s := rfl
set_option maxRecDepth 100000 in
set_option maxHeartbeats 4000000 in
theorem number_any (d : List UInt8) (dv : Value) (at_ x sg un : Int) (t : Tr) (tv : Value) (w : World) (hD : DocAt w dv d) (ha : i64ok at_) (hn : NodeAt w t tv) : Calls Try.prog 98 #[dv, .int .i64 at_, .int .i64 x, .int .i64 sg, .int .i64 un, tv] w fun r w' => r = .returned (.bool (numberF d at_ x sg un t)) ∧ Grew w w' := by
  have HD := Lib.hid hD
  have HT := Lib.hid hn
  obtain ⟨da, dc, rfl, _⟩ := hD.form
  obtain ⟨tk, tn, tu, ts, ta4, tn4, tc4, ta5, tn5, tc5, rfl⟩ := hn.node6
  obtain ⟨ek, en, eu, es⟩ := kind_of hn
  have HK : Hid (tk = t.kind ∧ tn = t.fn ∧ tu = t.fu ∧ ts = t.fs) := ⟨ek, en, eu, es⟩
  clear hD hn ek en eu es
  have HG := Lib.hid (Grew.refl w)
  have HP := Lib.hid (loadF_pos d at_ x)
  have HLD : Hid (∀ w', DocAt w' (.slice da d.length dc) d → Calls Try.prog 84 #[.slice da d.length dc, .int .i64 at_, .int .i64 x] w' fun r w2 => r = .returned (.tuple #[.int .u64 (loadF d at_ x).1, .int .i64 (loadF d at_ x).2]) ∧ Grew w' w2) := fun w' h => loadD_any _ d h.1 (by have := h.2.1; omega) at_ x ha (fun ad n c e => (h.2.2 ad n c e).1)
  have HLI : Hid (∀ w', DocAt w' (.slice da d.length dc) d → Calls Try.prog 112 #[.slice da d.length dc, .int .i64 at_, .int .i64 x] w' fun r w2 => r = .returned (.tuple #[.int .i64 (loadIntF d at_ x).1, .int .i64 (loadIntF d at_ x).2]) ∧ Grew w' w2) := fun w' h => loadIntD_any _ d h.1 (by have := h.2.1; omega) at_ x ha (fun ad n c e => (h.2.2 ad n c e).1)
  unfold numberF
  generalize loadF d at_ x = q at *
  generalize loadIntF d at_ x = qi at *
  obtain ⟨lu, le⟩ := q
  obtain ⟨li, lj⟩ := qi
  simp only at HP HLD HLI ⊢
  obtain ⟨res, hres⟩ : ∃ b, (if le ≠ 0 then false else if t.kind = sg then bareF t sg li 0 EMB else decide (t.kind = un) && bareF t un 0 lu EMB) = b := ⟨_, rfl⟩
  rw [hres]
  have HRES := Lib.hid hres
  clear hres
  go_enter Try.func98, Try.ntmps98
  go_upto_region 1 with fail
  obtain ⟨pt, hpt⟩ : ∃ N, w.heap.size = N := ⟨_, rfl⟩
  have hr1 := heap_alloc_new w (.cells #[.int .i64 tk, .int .i64 tn, .int .u64 tu, .string ts, .slice ta4 tn4 tc4, .slice ta5 tn5 tc5] 27)
  have hga := (Grew.refl w).alloc (.cells #[.int .i64 tk, .int .i64 tn, .int .u64 tu, .string ts, .slice ta4 tn4 tc4, .slice ta5 tn5 tc5] 27)
  have hz1 : (w.alloc (.cells #[.int .i64 tk, .int .i64 tn, .int .u64 tu, .string ts, .slice ta4 tn4 tc4, .slice ta5 tn5 tc5] 27)).heap.size = pt + 1 := by rw [World.size_alloc, hpt]
  generalize (w.alloc (.cells #[.int .i64 tk, .int .i64 tn, .int .u64 tu, .string ts, .slice ta4 tn4 tc4, .slice ta5 tn5 tc5] 27)) = x1 at *
  rw [hpt] at hr1
  try rw [hpt]
  have HRT := Lib.hid hr1
  clear hr1 hpt
  replace HD := Lib.hid (DocAt.grew HD.out hga)
  replace HT := Lib.hid (NodeAt.grew hga HT.out)
  replace HG := Lib.hid (HG.out.trans hga)
  clear hga
  clear hz1
  go_wp2_with fail
  refine (HLD.out _ HD.out).mono ?_
  rintro r u1 ⟨rfl, hgc⟩
  replace HD := Lib.hid (DocAt.grew HD.out hgc)
  replace HT := Lib.hid (NodeAt.grew hgc HT.out)
  replace HRT := Lib.hid (hgc.heap HRT.out)
  replace HG := Lib.hid (HG.out.trans hgc)
  clear hgc
  go_wp2_with fail
  refine (HLI.out _ HD.out).mono ?_
  rintro r u2 ⟨rfl, hgc⟩
  replace HD := Lib.hid (DocAt.grew HD.out hgc)
  replace HT := Lib.hid (NodeAt.grew hgc HT.out)
  replace HRT := Lib.hid (hgc.heap HRT.out)
  replace HG := Lib.hid (HG.out.trans hgc)
  clear hgc
  have c0 := row_cellT HRT.out 0 _ rfl
  have c1 := row_cellT HRT.out 1 _ rfl
  have c2 := row_cellT HRT.out 2 _ rfl
  have c3 := row_cellT HRT.out 3 _ rfl
  have c4 := row_cellT HRT.out 4 _ rfl
  have c5 := row_cellT HRT.out 5 _ rfl
  by_cases hle : le = 0
  rotate_left
  · have hb : (le != 0) = true := by simpa using hle
    have HV : Hid (res = false) := by show _ = _; rw [← HRES.out, if_pos hle]
    clear hle
    go_wp2_with fail
    go_ret
    exact ⟨by rw [HV.out]; rfl, HG.out⟩
  subst hle
  by_cases hs : tk = sg
  · have hb : (tk == sg) = true := by simpa using hs
    have HV : Hid (res = bareF t tk li 0 EMB) := by show _ = _; rw [← HRES.out, if_neg (by decide), ← HK.out.1, if_pos hs, hs]
    subst hs
    go_wp2_with fail
    refine (bare_any t _ tk li 0 ⟨#[]⟩ _ HT.out).mono ?_
    rintro r u3 ⟨rfl, hgc⟩
    replace HD := Lib.hid (DocAt.grew HD.out hgc)
    replace HT := Lib.hid (NodeAt.grew hgc HT.out)
    replace HRT := Lib.hid (hgc.heap HRT.out)
    replace HG := Lib.hid (HG.out.trans hgc)
    clear hgc
    go_wp2_with fail
    go_ret
    exact ⟨by rw [HV.out]; rfl, HG.out⟩
  have hb : (tk == sg) = false := by simpa using hs
  by_cases hu : tk = un
  · have hb2 : (tk == un) = true := by simpa using hu
    have HV : Hid (res = bareF t tk 0 lu EMB) := by show _ = _; rw [← HRES.out, if_neg (by decide), ← HK.out.1, if_neg hs, decide_eq_true hu, Bool.true_and, hu]
    clear hs
    subst hu
    go_wp2_with fail
    refine (bare_any t _ tk 0 lu ⟨#[]⟩ _ HT.out).mono ?_
    rintro r u3 ⟨rfl, hgc⟩
    replace HD := Lib.hid (DocAt.grew HD.out hgc)
    replace HT := Lib.hid (NodeAt.grew hgc HT.out)
    replace HRT := Lib.hid (hgc.heap HRT.out)
    replace HG := Lib.hid (HG.out.trans hgc)
    clear hgc
    go_wp2_with fail
    go_ret
    exact ⟨by rw [HV.out]; rfl, HG.out⟩
  have hb2 : (tk == un) = false := by simpa using hu
  have HV : Hid (res = false) := by show _ = _; rw [← HRES.out, if_neg (by decide), ← HK.out.1, if_neg hs, decide_eq_false hu, Bool.false_and]
  clear hu hs
  go_wp2_with fail
  go_ret
  exact ⟨by rw [HV.out]; rfl, HG.out⟩
end Go.Proofs.Ytlhliolknaopjaa

/-
  Denote: the methods that look at one datum. Conditions: the bytes, the tree lie in memory.
-/
namespace Go.Proofs.Ytlhliolknaopjaa
open Go Go.ChangeShapes Go.WideShapes Go.ChangeAt Go.RowKit Go.Joins Go.Deep
set_option linter.unusedVariables false
set_option linter.unusedSimpArgs false

set_option maxRecDepth 100000 in
theorem conv_any (x : List UInt8) (bl off c n : Nat) (w : World) (hn : x.length = n) (h : BytesAt w (.slice (some ⟨bl, off, none⟩) n c) x) : (convert 55 9 (.slice (some ⟨bl, off, none⟩) n c)).run Try.prog w = .ok (.string ⟨x.toArray⟩) w := by
  subst hn
  obtain ⟨a, c', e, _, _, h4⟩ := h
  cases e
  have := run_convert_bytes_arg (P := Try.prog) w 55 5 Try.underlying55 Try.underlying5 bl off x.length c (x.map fun b => (b.toNat : Int)) (by simp) (fun i hi => by
    obtain ⟨b, o, e, hc⟩ := h4 i x[i] (List.getElem?_eq_getElem hi)
    cases e
    rw [hc]
    simp [List.getD_eq_getElem?_getD, hi]) 9 Try.underlying9
  rw [this]
  congr 2
  unfold strOfNums
  simp [Function.comp_def]
theorem str_of (s : ByteArray) (x : List UInt8) : (x == s.toList) = decide (x = s.data.toList) := by
  rw [ByteArray.toList_eq]
  by_cases h : x = s.data.toList
  · rw [decide_eq_true h]; simp [h]
  · rw [decide_eq_false h]; simpa using h
set_option maxRecDepth 100000 in
set_option maxHeartbeats 4000000 in
theorem is_any (d : List UInt8) (dv : Value) (at_ : Int) (s : ByteArray) (w : World) (hD : DocAt w dv d) (ha : i64ok at_) (hs : s.size ≤ 1048576) : Calls Try.prog 100 #[dv, .int .i64 at_, .string s] w fun r w' => r = .returned (.bool (hasF d at_ s)) ∧ Grew w w' := by
  have HD := Lib.hid hD
  have hdl := hD.2.1
  obtain ⟨da, dc, rfl, hdc⟩ := hD.form
  by_cases h0 : 0 ≤ at_
  rotate_left
  · have HF : Hid (hasF d at_ s = false) := by show _ = _; unfold hasF; rw [decide_eq_false h0]; rfl
    rw [HF.out]
    have h1 : at_ < 0 := by omega
    clear h0 hD
    go_enter Try.func100, Try.ntmps100
    go_wp2_with fail
    go_ret
    exact ⟨rfl, Grew.refl _⟩
  have hw1 : i64ok ((d.length : Int) - at_) := by unfold i64ok at ha ⊢; omega
  by_cases h1 : (s.size : Int) ≤ d.length - at_
  rotate_left
  · have HF : Hid (hasF d at_ s = false) := by show _ = _; unfold hasF; rw [decide_eq_true h0, decide_eq_false h1]; rfl
    rw [HF.out]
    have hwr : IntKind.i64.wrap ((d.length : Int) - at_) = (d.length : Int) - at_ := by rw [IntKind.wrap_i64]; unfold i64ok at hw1; omega
    clear hD hw1
    go_enter Try.func100, Try.ntmps100
    go_wp2_with fail
    go_ret
    exact ⟨rfl, Grew.refl _⟩
  obtain ⟨k, rfl⟩ := Int.eq_ofNat_of_zero_le h0
  have hk : k + s.size ≤ d.length := by omega
  have HF : Hid (hasF d (k : Int) s = decide ((d.drop k).take s.size = s.data.toList)) := by show _ = _; unfold hasF; rw [decide_eq_true h0, decide_eq_true h1]; rfl
  rw [HF.out]
  have hb := hD.1
  clear hD hw1 ha
  cases da with
  | none =>
    obtain ⟨a, c', e, h3, h4, _⟩ := hb
    cases e
    have hc0 := h4 rfl
    subst hc0
    have hd0 : d = [] := List.length_eq_zero_iff.1 (by omega)
    subst hd0
    have hs0 : s.size = 0 := by simp at hk; omega
    have hk0 : k = 0 := by simp at hk; omega
    subst hk0
    have hse : s = ⟨#[]⟩ := by
      obtain ⟨⟨l⟩⟩ := s
      simp [ByteArray.size] at hs0
      rw [hs0]
    subst hse
    have hcv : (convert 55 9 (.slice none 0 0)).run Try.prog w = .ok (.string ⟨#[]⟩) w := by
      rw [run_convert_bytes_string w _ _ _ _ _ _ Try.underlying55 Try.underlying5 Try.underlying9]; rfl
    have hse : ((⟨#[]⟩ : ByteArray).toList == (⟨#[]⟩ : ByteArray).toList) = true := by decide +kernel
    clear h3 h4 HF hdl hdc HD h0 hs hs0 h1 hk
    show Calls Try.prog 100 #[.slice none 0 0, .int .i64 0, .string ⟨#[]⟩] w fun r w' => r = .returned (.bool true) ∧ Grew w w'
    go_enter Try.func100, Try.ntmps100
    go_wp2_with fail
    go_ret
    exact ⟨rfl, Grew.refl _⟩
  | some ad =>
    obtain ⟨bl, off, he⟩ : ∃ bl off, ad = ⟨bl, off, none⟩ := (HD.out.2.2 ad _ _ rfl).2
    subst he
    clear HF HD
    have hst := str_of s ((d.drop k).take s.size)
    have hw1 : IntKind.i64.wrap ((d.length : Int) - (k : Int)) = (d.length : Int) - (k : Int) := by rw [IntKind.wrap_i64]; omega
    have hw2 : IntKind.i64.wrap ((k : Int) + (s.size : Int)) = (k : Int) + (s.size : Int) := by rw [IntKind.wrap_i64]; omega
    have hkd : (k : Int) + (s.size : Int) ≤ dc := by omega
    by_cases hkc : k < dc
    · have hcv := conv_any ((d.drop k).take s.size) bl (off + k) (dc - k) s.size w (by simp; omega) (bytes_cut hb k s.size (dc - k) hk (by omega))
      generalize (d.drop k).take s.size = z at *
      generalize decide (z = s.data.toList) = bz at *
      clear hb
      go_enter Try.func100, Try.ntmps100
      go_wp2_with fail
      go_ret
      exact ⟨by rw [← hst]; rfl, Grew.refl _⟩
    · have hs0 : s.size = 0 := by omega
      have hz : (d.drop k).take s.size = [] := by rw [hs0]; simp
      have hcv : (convert 55 9 (.slice (some ⟨bl, off, none⟩) 0 0)).run Try.prog w = .ok (.string ⟨((d.drop k).take s.size).toArray⟩) w := by
        rw [hz]
        exact conv_any [] bl off 0 0 w rfl ⟨some ⟨bl, off, none⟩, 0, by simp, by simp, fun h => (by cases h), fun i b h => by simp at h⟩
      generalize (d.drop k).take s.size = z at *
      generalize decide (z = s.data.toList) = bz at *
      clear hb hz
      have hkd2 : k = dc := by omega
      subst hkd2
      clear hs0 hkc
      go_enter Try.func100, Try.ntmps100
      go_wp2_with fail
      go_ret
      exact ⟨by rw [← hst]; rfl, Grew.refl _⟩
set_option maxRecDepth 100000 in
set_option maxHeartbeats 4000000 in
theorem inside_any (d : List UInt8) (dv : Value) (pos par typ wid : Int) (w : World) (hD : DocAt w dv d) (hp : i64ok pos) : Calls Try.prog 97 #[dv, .agg #[.int .i64 pos, .int .i64 par, .int .i64 typ, .int .i64 wid]] w fun r w' => r = .returned (.bool (decide ((loadF d pos par).2 = 0))) ∧ Grew w w' := by
  have HD := Lib.hid hD
  obtain ⟨da, dc, rfl, _⟩ := hD.form
  clear hD
  have HG := Lib.hid (Grew.refl w)
  have HLD : Hid (∀ w', DocAt w' (.slice da d.length dc) d → Calls Try.prog 84 #[.slice da d.length dc, .int .i64 pos, .int .i64 par] w' fun r w2 => r = .returned (.tuple #[.int .u64 (loadF d pos par).1, .int .i64 (loadF d pos par).2]) ∧ Grew w' w2) := fun w' h => loadD_any _ d h.1 (by have := h.2.1; omega) pos par hp (fun ad n c e => (h.2.2 ad n c e).1)
  generalize loadF d pos par = q at *
  obtain ⟨lu, le⟩ := q
  simp only at HLD ⊢
  obtain ⟨res, hres⟩ : ∃ b, decide (le = 0) = b := ⟨_, rfl⟩
  rw [hres]
  have HRES := Lib.hid hres
  clear hres
  go_enter Try.func97, Try.ntmps97
  go_upto_region 1 with fail
  obtain ⟨pr, hpr⟩ : ∃ N, w.heap.size = N := ⟨_, rfl⟩
  have hr1 := heap_alloc_new w (.cells #[.int .i64 pos, .int .i64 par, .int .i64 typ, .int .i64 wid] 35)
  have hga := (Grew.refl w).alloc (.cells #[.int .i64 pos, .int .i64 par, .int .i64 typ, .int .i64 wid] 35)
  have hz1 : (w.alloc (.cells #[.int .i64 pos, .int .i64 par, .int .i64 typ, .int .i64 wid] 35)).heap.size = pr + 1 := by rw [World.size_alloc, hpr]
  generalize (w.alloc (.cells #[.int .i64 pos, .int .i64 par, .int .i64 typ, .int .i64 wid] 35)) = x1 at *
  rw [hpr] at hr1
  try rw [hpr]
  have HRR := Lib.hid hr1
  clear hr1 hpr
  replace HD := Lib.hid (DocAt.grew HD.out hga)
  replace HG := Lib.hid (HG.out.trans hga)
  clear hga
  clear hz1
  have c0 := row_cellT HRR.out 0 _ rfl
  have c1 := row_cellT HRR.out 1 _ rfl
  have c2 := row_cellT HRR.out 2 _ rfl
  have c3 := row_cellT HRR.out 3 _ rfl
  go_wp2_with fail
  refine (HLD.out _ HD.out).mono ?_
  rintro r u1 ⟨rfl, hgc⟩
  replace HD := Lib.hid (DocAt.grew HD.out hgc)
  replace HRR := Lib.hid (hgc.heap HRR.out)
  replace HG := Lib.hid (HG.out.trans hgc)
  clear hgc
  by_cases hle : le = 0
  · have hb : (le == 0) = true := by simpa using hle
    have HV : Hid (res = true) := by show _ = _; rw [← HRES.out, decide_eq_true hle]
    clear hle
    go_wp2_with fail
    go_ret
    exact ⟨by rw [HV.out]; rfl, HG.out⟩
  · have hb : (le == 0) = false := by simpa using hle
    have HV : Hid (res = false) := by show _ = _; rw [← HRES.out, decide_eq_false hle]
    clear hle
    go_wp2_with fail
    go_ret
    exact ⟨by rw [HV.out]; rfl, HG.out⟩
set_option maxRecDepth 100000 in
set_option maxHeartbeats 4000000 in
theorem null_any (d : List UInt8) (dv : Value) (pos par typ wid at_ : Int) (t : Tr) (tv : Value) (w : World) (hD : DocAt w dv d) (hn : NodeAt w t tv) (hp : i64ok pos) : Calls Try.prog 73 #[dv, .agg #[.int .i64 pos, .int .i64 par, .int .i64 typ, .int .i64 wid], .int .i64 at_, tv] w fun r w' => r = .returned (.bool (nullF d pos par t)) ∧ Grew w w' := by
  have HD := Lib.hid hD
  have HT := Lib.hid hn
  obtain ⟨da, dc, rfl, _⟩ := hD.form
  obtain ⟨tk, tn, tu, ts, ta4, tn4, tc4, ta5, tn5, tc5, rfl⟩ := hn.node6
  obtain ⟨ek, en, eu, es⟩ := kind_of hn
  have HK : Hid (tk = t.kind ∧ tn = t.fn ∧ tu = t.fu ∧ ts = t.fs) := ⟨ek, en, eu, es⟩
  clear hD hn ek en eu es
  have HG := Lib.hid (Grew.refl w)
  obtain ⟨res, hres⟩ : ∃ b, nullF d pos par t = b := ⟨_, rfl⟩
  rw [hres]
  have HRES := Lib.hid hres
  clear hres
  go_enter Try.func73, Try.ntmps73
  go_upto_region 1 with fail
  obtain ⟨pr, hpr⟩ : ∃ N, w.heap.size = N := ⟨_, rfl⟩
  have hr1 := heap_alloc_new w (.cells #[.int .i64 pos, .int .i64 par, .int .i64 typ, .int .i64 wid] 35)
  have hga := (Grew.refl w).alloc (.cells #[.int .i64 pos, .int .i64 par, .int .i64 typ, .int .i64 wid] 35)
  have hz1 : (w.alloc (.cells #[.int .i64 pos, .int .i64 par, .int .i64 typ, .int .i64 wid] 35)).heap.size = pr + 1 := by rw [World.size_alloc, hpr]
  generalize (w.alloc (.cells #[.int .i64 pos, .int .i64 par, .int .i64 typ, .int .i64 wid] 35)) = x1 at *
  rw [hpr] at hr1
  try rw [hpr]
  have HRR := Lib.hid hr1
  clear hr1 hpr
  replace HD := Lib.hid (DocAt.grew HD.out hga)
  replace HT := Lib.hid (NodeAt.grew hga HT.out)
  replace HG := Lib.hid (HG.out.trans hga)
  clear hga
  have hr2 := heap_alloc_new x1 (.cells #[.int .i64 tk, .int .i64 tn, .int .u64 tu, .string ts, .slice ta4 tn4 tc4, .slice ta5 tn5 tc5] 27)
  have hga := (Grew.refl x1).alloc (.cells #[.int .i64 tk, .int .i64 tn, .int .u64 tu, .string ts, .slice ta4 tn4 tc4, .slice ta5 tn5 tc5] 27)
  generalize (x1.alloc (.cells #[.int .i64 tk, .int .i64 tn, .int .u64 tu, .string ts, .slice ta4 tn4 tc4, .slice ta5 tn5 tc5] 27)) = x2 at *
  rw [hz1] at hr2
  try rw [hz1]
  have HRT := Lib.hid hr2
  clear hr2 hz1
  replace HD := Lib.hid (DocAt.grew HD.out hga)
  replace HT := Lib.hid (NodeAt.grew hga HT.out)
  replace HRR := Lib.hid (hga.heap HRR.out)
  replace HG := Lib.hid (HG.out.trans hga)
  clear hga
  have c0 := row_cellT HRR.out 0 _ rfl
  have c1 := row_cellT HRR.out 1 _ rfl
  have c2 := row_cellT HRR.out 2 _ rfl
  have c3 := row_cellT HRR.out 3 _ rfl
  have e0 := row_cellT HRT.out 0 _ rfl
  have e1 := row_cellT HRT.out 1 _ rfl
  have e2 := row_cellT HRT.out 2 _ rfl
  have e3 := row_cellT HRT.out 3 _ rfl
  have e4 := row_cellT HRT.out 4 _ rfl
  have e5 := row_cellT HRT.out 5 _ rfl
  go_wp2_with fail
  have hh := inside_any d _ pos par typ wid _ HD.out hp
  obtain ⟨ins, hins⟩ : ∃ b, decide ((loadF d pos par).2 = 0) = b := ⟨_, rfl⟩
  rw [hins] at hh
  have HIN := Lib.hid hins
  clear hins
  refine hh.mono ?_
  clear hh
  rintro r u1 ⟨rfl, hgc⟩
  clear c0 c1 c2 c3
  clear e0 e1 e2 e3 e4 e5
  replace HD := Lib.hid (DocAt.grew HD.out hgc)
  replace HT := Lib.hid (NodeAt.grew hgc HT.out)
  replace HRR := Lib.hid (hgc.heap HRR.out)
  replace HRT := Lib.hid (hgc.heap HRT.out)
  replace HG := Lib.hid (HG.out.trans hgc)
  clear hgc
  have e0 := row_cellT HRT.out 0 _ rfl
  have e1 := row_cellT HRT.out 1 _ rfl
  have e2 := row_cellT HRT.out 2 _ rfl
  have e3 := row_cellT HRT.out 3 _ rfl
  have e4 := row_cellT HRT.out 4 _ rfl
  have e5 := row_cellT HRT.out 5 _ rfl
  cases ins
  · have HV : Hid (res = false) := by show _ = _; rw [← HRES.out]; unfold nullF; rw [HIN.out]; rfl
    go_wp2_with fail
    go_ret
    exact ⟨by rw [HV.out]; rfl, HG.out⟩
  have HV : Hid (res = bareF t 1 0 0 EMB) := by show _ = _; rw [← HRES.out]; unfold nullF; rw [HIN.out, Bool.true_and]
  go_wp2_with fail
  refine (bare_any t _ 1 0 0 ⟨#[]⟩ _ HT.out).mono ?_
  rintro r u2 ⟨rfl, hgc⟩
  replace HD := Lib.hid (DocAt.grew HD.out hgc)
  replace HT := Lib.hid (NodeAt.grew hgc HT.out)
  replace HRR := Lib.hid (hgc.heap HRR.out)
  replace HRT := Lib.hid (hgc.heap HRT.out)
  replace HG := Lib.hid (HG.out.trans hgc)
  clear hgc
  clear e0 e1 e2 e3 e4 e5
  go_wp2_with fail
  go_ret
  exact ⟨by rw [HV.out]; rfl, HG.out⟩
set_option maxRecDepth 100000 in
set_option maxHeartbeats 4000000 in
theorem int_any (d : List UInt8) (dv : Value) (pos par typ wid at_ : Int) (t : Tr) (tv : Value) (w : World) (hD : DocAt w dv d) (hn : NodeAt w t tv) (hp : i64ok pos) : Calls Try.prog 74 #[dv, .agg #[.int .i64 pos, .int .i64 par, .int .i64 typ, .int .i64 wid], .int .i64 at_, tv] w fun r w' => r = .returned (.bool (intF d pos par t)) ∧ Grew w w' := by
  have HD := Lib.hid hD
  have HT := Lib.hid hn
  obtain ⟨da, dc, rfl, _⟩ := hD.form
  obtain ⟨tk, tn, tu, ts, ta4, tn4, tc4, ta5, tn5, tc5, rfl⟩ := hn.node6
  obtain ⟨ek, en, eu, es⟩ := kind_of hn
  have HK : Hid (tk = t.kind ∧ tn = t.fn ∧ tu = t.fu ∧ ts = t.fs) := ⟨ek, en, eu, es⟩
  clear hD hn ek en eu es
  have HG := Lib.hid (Grew.refl w)
  obtain ⟨res, hres⟩ : ∃ b, intF d pos par t = b := ⟨_, rfl⟩
  rw [hres]
  have HRES := Lib.hid hres
  clear hres
  go_enter Try.func74, Try.ntmps74
  go_upto_region 1 with fail
  obtain ⟨pr, hpr⟩ : ∃ N, w.heap.size = N := ⟨_, rfl⟩
  have hr1 := heap_alloc_new w (.cells #[.int .i64 pos, .int .i64 par, .int .i64 typ, .int .i64 wid] 35)
  have hga := (Grew.refl w).alloc (.cells #[.int .i64 pos, .int .i64 par, .int .i64 typ, .int .i64 wid] 35)
  have hz1 : (w.alloc (.cells #[.int .i64 pos, .int .i64 par, .int .i64 typ, .int .i64 wid] 35)).heap.size = pr + 1 := by rw [World.size_alloc, hpr]
  generalize (w.alloc (.cells #[.int .i64 pos, .int .i64 par, .int .i64 typ, .int .i64 wid] 35)) = x1 at *
  rw [hpr] at hr1
  try rw [hpr]
  have HRR := Lib.hid hr1
  clear hr1 hpr
  replace HD := Lib.hid (DocAt.grew HD.out hga)
  replace HT := Lib.hid (NodeAt.grew hga HT.out)
  replace HG := Lib.hid (HG.out.trans hga)
  clear hga
  have hr2 := heap_alloc_new x1 (.cells #[.int .i64 tk, .int .i64 tn, .int .u64 tu, .string ts, .slice ta4 tn4 tc4, .slice ta5 tn5 tc5] 27)
  have hga := (Grew.refl x1).alloc (.cells #[.int .i64 tk, .int .i64 tn, .int .u64 tu, .string ts, .slice ta4 tn4 tc4, .slice ta5 tn5 tc5] 27)
  generalize (x1.alloc (.cells #[.int .i64 tk, .int .i64 tn, .int .u64 tu, .string ts, .slice ta4 tn4 tc4, .slice ta5 tn5 tc5] 27)) = x2 at *
  rw [hz1] at hr2
  try rw [hz1]
  have HRT := Lib.hid hr2
  clear hr2 hz1
  replace HD := Lib.hid (DocAt.grew HD.out hga)
  replace HT := Lib.hid (NodeAt.grew hga HT.out)
  replace HRR := Lib.hid (hga.heap HRR.out)
  replace HG := Lib.hid (HG.out.trans hga)
  clear hga
  have c0 := row_cellT HRR.out 0 _ rfl
  have c1 := row_cellT HRR.out 1 _ rfl
  have c2 := row_cellT HRR.out 2 _ rfl
  have c3 := row_cellT HRR.out 3 _ rfl
  have e0 := row_cellT HRT.out 0 _ rfl
  have e1 := row_cellT HRT.out 1 _ rfl
  have e2 := row_cellT HRT.out 2 _ rfl
  have e3 := row_cellT HRT.out 3 _ rfl
  have e4 := row_cellT HRT.out 4 _ rfl
  have e5 := row_cellT HRT.out 5 _ rfl
  by_cases hk : tk = 3
  rotate_left
  · have hb : (tk == 3) = false := by simpa using hk
    have HV : Hid (res = false) := by show _ = _; rw [← HRES.out]; unfold intF; rw [← HK.out.1, decide_eq_false hk]; rfl
    clear hk
    go_wp2_with fail
    go_ret
    exact ⟨by rw [HV.out]; rfl, HG.out⟩
  have HV : Hid (res = numberF d pos par 3 4 t) := by show _ = _; rw [← HRES.out]; unfold intF; rw [← HK.out.1, decide_eq_true hk, Bool.true_and]
  subst hk
  go_wp2_with fail
  refine (number_any d _ pos par 3 4 t _ _ HD.out hp HT.out).mono ?_
  rintro r u2 ⟨rfl, hgc⟩
  replace HD := Lib.hid (DocAt.grew HD.out hgc)
  replace HT := Lib.hid (NodeAt.grew hgc HT.out)
  replace HRR := Lib.hid (hgc.heap HRR.out)
  replace HRT := Lib.hid (hgc.heap HRT.out)
  replace HG := Lib.hid (HG.out.trans hgc)
  clear hgc
  clear c0 c1 c2 c3
  clear e0 e1 e2 e3 e4 e5
  go_wp2_with fail
  go_ret
  exact ⟨by rw [HV.out]; rfl, HG.out⟩
set_option maxRecDepth 100000 in
set_option maxHeartbeats 4000000 in
theorem uint_any (d : List UInt8) (dv : Value) (pos par typ wid at_ : Int) (t : Tr) (tv : Value) (w : World) (hD : DocAt w dv d) (hn : NodeAt w t tv) (hp : i64ok pos) : Calls Try.prog 75 #[dv, .agg #[.int .i64 pos, .int .i64 par, .int .i64 typ, .int .i64 wid], .int .i64 at_, tv] w fun r w' => r = .returned (.bool (uintF d pos par t)) ∧ Grew w w' := by
  have HD := Lib.hid hD
  have HT := Lib.hid hn
  obtain ⟨da, dc, rfl, _⟩ := hD.form
  obtain ⟨tk, tn, tu, ts, ta4, tn4, tc4, ta5, tn5, tc5, rfl⟩ := hn.node6
  obtain ⟨ek, en, eu, es⟩ := kind_of hn
  have HK : Hid (tk = t.kind ∧ tn = t.fn ∧ tu = t.fu ∧ ts = t.fs) := ⟨ek, en, eu, es⟩
  clear hD hn ek en eu es
  have HG := Lib.hid (Grew.refl w)
  obtain ⟨res, hres⟩ : ∃ b, uintF d pos par t = b := ⟨_, rfl⟩
  rw [hres]
  have HRES := Lib.hid hres
  clear hres
  go_enter Try.func75, Try.ntmps75
  go_upto_region 1 with fail
  obtain ⟨pr, hpr⟩ : ∃ N, w.heap.size = N := ⟨_, rfl⟩
  have hr1 := heap_alloc_new w (.cells #[.int .i64 pos, .int .i64 par, .int .i64 typ, .int .i64 wid] 35)
  have hga := (Grew.refl w).alloc (.cells #[.int .i64 pos, .int .i64 par, .int .i64 typ, .int .i64 wid] 35)
  have hz1 : (w.alloc (.cells #[.int .i64 pos, .int .i64 par, .int .i64 typ, .int .i64 wid] 35)).heap.size = pr + 1 := by rw [World.size_alloc, hpr]
  generalize (w.alloc (.cells #[.int .i64 pos, .int .i64 par, .int .i64 typ, .int .i64 wid] 35)) = x1 at *
  rw [hpr] at hr1
  try rw [hpr]
  have HRR := Lib.hid hr1
  clear hr1 hpr
  replace HD := Lib.hid (DocAt.grew HD.out hga)
  replace HT := Lib.hid (NodeAt.grew hga HT.out)
  replace HG := Lib.hid (HG.out.trans hga)
  clear hga
  have hr2 := heap_alloc_new x1 (.cells #[.int .i64 tk, .int .i64 tn, .int .u64 tu, .string ts, .slice ta4 tn4 tc4, .slice ta5 tn5 tc5] 27)
  have hga := (Grew.refl x1).alloc (.cells #[.int .i64 tk, .int .i64 tn, .int .u64 tu, .string ts, .slice ta4 tn4 tc4, .slice ta5 tn5 tc5] 27)
  generalize (x1.alloc (.cells #[.int .i64 tk, .int .i64 tn, .int .u64 tu, .string ts, .slice ta4 tn4 tc4, .slice ta5 tn5 tc5] 27)) = x2 at *
  rw [hz1] at hr2
  try rw [hz1]
  have HRT := Lib.hid hr2
  clear hr2 hz1
  replace HD := Lib.hid (DocAt.grew HD.out hga)
  replace HT := Lib.hid (NodeAt.grew hga HT.out)
  replace HRR := Lib.hid (hga.heap HRR.out)
  replace HG := Lib.hid (HG.out.trans hga)
  clear hga
  have c0 := row_cellT HRR.out 0 _ rfl
  have c1 := row_cellT HRR.out 1 _ rfl
  have c2 := row_cellT HRR.out 2 _ rfl
  have c3 := row_cellT HRR.out 3 _ rfl
  have e0 := row_cellT HRT.out 0 _ rfl
  have e1 := row_cellT HRT.out 1 _ rfl
  have e2 := row_cellT HRT.out 2 _ rfl
  have e3 := row_cellT HRT.out 3 _ rfl
  have e4 := row_cellT HRT.out 4 _ rfl
  have e5 := row_cellT HRT.out 5 _ rfl
  by_cases hk : tk = 4
  rotate_left
  · have hb : (tk == 4) = false := by simpa using hk
    have HV : Hid (res = false) := by show _ = _; rw [← HRES.out]; unfold uintF; rw [← HK.out.1, decide_eq_false hk]; rfl
    clear hk
    go_wp2_with fail
    go_ret
    exact ⟨by rw [HV.out]; rfl, HG.out⟩
  have HV : Hid (res = numberF d pos par 3 4 t) := by show _ = _; rw [← HRES.out]; unfold uintF; rw [← HK.out.1, decide_eq_true hk, Bool.true_and]
  subst hk
  go_wp2_with fail
  refine (number_any d _ pos par 3 4 t _ _ HD.out hp HT.out).mono ?_
  rintro r u2 ⟨rfl, hgc⟩
  replace HD := Lib.hid (DocAt.grew HD.out hgc)
  replace HT := Lib.hid (NodeAt.grew hgc HT.out)
  replace HRR := Lib.hid (hgc.heap HRR.out)
  replace HRT := Lib.hid (hgc.heap HRT.out)
  replace HG := Lib.hid (HG.out.trans hgc)
  clear hgc
  clear c0 c1 c2 c3
  clear e0 e1 e2 e3 e4 e5
  go_wp2_with fail
  go_ret
  exact ⟨by rw [HV.out]; rfl, HG.out⟩
end Go.Proofs.Ytlhliolknaopjaa
