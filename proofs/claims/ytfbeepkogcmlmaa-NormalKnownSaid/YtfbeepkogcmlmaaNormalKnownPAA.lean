/-
  Texts of the proof.
-/
import Derived.Test.YtfbeepkogcmlmaaNormalKnownP00
import Derived.Shelf.Small.Bits
import Derived.Shelf.Small.Strs
import Derived.Shelf.Strconv.Itoa0
import Derived.Shelf.Strings.Search1
import Derived.Ground.Names2Prog
import Derived.Shelf.Slices.Clone
import Derived.Ground.SlgnProg
import Derived.Shelf.SlicesE.Clone
import Derived.Ground.SlsfProg
import Derived.Shelf.SlSortCmp.Insertion
import Derived.Shelf.SlSortCmp.SiftDown1
import Derived.Shelf.SlSortCmp.HeapSort1
import Derived.Shelf.SlSortCmp.Insertion1
import Derived.Shelf.SlSortCmp.Median1
import Derived.Shelf.SlSortCmp.Pivot1
import Derived.Shelf.SlSortCmp.ReverseRange1
import Derived.Shelf.SlSortCmp.PartialInsertion1
import Derived.Shelf.SlSortCmp.PartitionEqual1
import Derived.Shelf.SlSortCmp.Partition1
import Derived.Shelf.SlSortCmp.Pdq1
import Derived.Shelf.SlSortCmp.Whole1
import Derived.Shelf.SlSortCmp.NoneTotal
import Derived.Test.YtfbeepkogcmlmaaProg
namespace Go.Proofs
open Go.Shelf
def Try.lays106_ren:Go.Shelf.Ren:=⟨fun | 106=>71 | 213=>78 | 265=>90 | n=>n,fun | 9=>9 | 3=>3 | n=>n,fun | n=>n⟩
theorem Try.lays106:Go.Proofs.Lays.n106 Try.prog Try.lays106_ren:={
 mixed:=by kernel_rfl
 f106:=Try.func71.trans (congrArg some zk)
 f213:=Try.func78.trans (congrArg some zk)
 f265:=Try.func90.trans (congrArg some zk)
 t3:=Try.underlying3
 a3:=Try.isAgg3
 z3:=Try.sizeOf3
 v3:=Try.zeroValue3
 t9:=Try.underlying9
 a9:=Try.isAgg9
 z9:=Try.sizeOf9
 v9:=Try.zeroValue9}
open Go.RowKit in
theorem Try.strings_Compare (a b:ByteArray) (w:World) :
 Calls Try.prog 71 #[.string a,.string b] w fun e w'=>e=.returned (.int .i64 (Lib.compareBytes a.data.toList b.data.toList))∧w'=w:=Any.strings_Compare Try.lays106 a b w
def Try.lays137_ren:Go.Shelf.Ren:=⟨fun | 137=>60 | 217=>68 | 266=>75 | n=>n,fun | 9=>9 | 5=>5 | 3=>3 | n=>n,fun | n=>n⟩
theorem Try.lays137:Go.Proofs.Lays.n137 Try.prog Try.lays137_ren:={
 mixed:=by kernel_rfl
 f137:=Try.func60.trans (congrArg some zk)
 f217:=Try.func68.trans (congrArg some zk)
 f266:=Try.func75.trans (congrArg some zk)
 t3:=Try.underlying3
 a3:=Try.isAgg3
 z3:=Try.sizeOf3
 v3:=Try.zeroValue3
 t5:=Try.underlying5
 a5:=Try.isAgg5
 z5:=Try.sizeOf5
 v5:=Try.zeroValue5
 t9:=Try.underlying9
 a9:=Try.isAgg9
 z9:=Try.sizeOf9
 v9:=Try.zeroValue9}
open Go.RowKit in
theorem Try.strings_IndexByte (s:ByteArray) (c:Int) (w:World) :
 Calls Try.prog 60 #[.string s,.int .u8 c] w fun e w'=>e=.returned (.int .i64 (Lib.indexByte s.data.toList c.toNat.toUInt8))∧w'=w:=Any.strings_IndexByte Try.lays137 s c w
def Try.laysSlF6_f69_ren:Go.Shelf.Ren:=⟨fun | 6=>69 | 15=>77 | 14=>76 | 28=>88 | 29=>89 | 20=>80 | 21=>81 | 22=>82 | 23=>83 | 24=>84 | 25=>85 | 26=>86 | 27=>87 | 46=>91 | 47=>92 | 48=>93 | 49=>94 | 50=>95 | 57=>96 | n=>n,fun | 22=>69 | 24=>3 | 25=>37 | 3=>3 | 39=>85 | 0=>0 | 53=>95 | 55=>22 | 4=>4 | 46=>88 | 45=>87 | 50=>92 | 5=>5 | 9=>9 | 66=>97 | 70=>101 | 76=>103 | 77=>104 | n=>n,fun | n=>n⟩
theorem Try.laysSlF6_f69:Go.Proofs.SlLaysF.n6 Try.prog Try.laysSlF6_f69_ren:={
 mixed:=by kernel_rfl
 f6:=⟨Try.f69.name,by decide,Try.func69.trans (congrArg some zk)⟩
 f14:=⟨Try.f76.name,by decide,Try.func76.trans (congrArg some zk)⟩
 f15:=Try.func77.trans (congrArg some zk)
 f20:=⟨Try.f80.name,by decide,Try.func80.trans (congrArg some zk)⟩
 f21:=⟨Try.f81.name,by decide,Try.func81.trans (congrArg some zk)⟩
 f22:=⟨Try.f82.name,by decide,Try.func82.trans (congrArg some zk)⟩
 f23:=⟨Try.f83.name,by decide,Try.func83.trans (congrArg some zk)⟩
 f24:=⟨Try.f84.name,by decide,Try.func84.trans (congrArg some zk)⟩
 f25:=⟨Try.f85.name,by decide,Try.func85.trans (congrArg some zk)⟩
 f26:=⟨Try.f86.name,by decide,Try.func86.trans (congrArg some zk)⟩
 f27:=⟨Try.f87.name,by decide,Try.func87.trans (congrArg some zk)⟩
 f28:=Try.func88.trans (congrArg some zk)
 f29:=Try.func89.trans (congrArg some zk)
 f46:=⟨Try.f91.name,by decide,Try.func91.trans (congrArg some zk)⟩
 f47:=Try.func92.trans (congrArg some zk)
 f48:=Try.func93.trans (congrArg some zk)
 f49:=⟨Try.f94.name,by decide,Try.func94.trans (congrArg some zk)⟩
 f50:=⟨Try.f95.name,by decide,Try.func95.trans (congrArg some zk)⟩
 f57:=⟨Try.f96.name,by decide,Try.func96.trans (congrArg some zk)⟩
 t0:=Try.underlying0
 a0:=Try.isAgg0
 z0:=Try.sizeOf0
 v0:=Try.zeroValue0
 t3:=Try.underlying3
 a3:=Try.isAgg3
 z3:=Try.sizeOf3
 v3:=Try.zeroValue3
 t4:=Try.underlying4
 a4:=Try.isAgg4
 z4:=Try.sizeOf4
 v4:=Try.zeroValue4
 t5:=Try.underlying5
 a5:=Try.isAgg5
 z5:=Try.sizeOf5
 v5:=Try.zeroValue5
 t9:=Try.underlying9
 a9:=Try.isAgg9
 z9:=Try.sizeOf9
 v9:=Try.zeroValue9
 t22:=Try.underlying69
 a22:=Try.isAgg69
 z22:=Try.sizeOf69
 v22:=Try.zeroValue69
 a24:=Try.isAgg3
 z24:=Try.sizeOf3
 t25:=Try.underlying37
 a25:=Try.isAgg37
 z25:=Try.sizeOf37
 v25:=Try.zeroValue37
 t39:=Try.underlying85
 a39:=Try.isAgg85
 z39:=Try.sizeOf85
 v39:=Try.zeroValue85
 t45:=Try.underlying87
 a45:=Try.isAgg87
 z45:=Try.sizeOf87
 v45:=Try.zeroValue87
 t46:=Try.underlying88
 a46:=Try.isAgg88
 z46:=Try.sizeOf88
 v46:=Try.zeroValue88
 t50:=Try.underlying92
 a50:=Try.isAgg92
 z50:=Try.sizeOf92
 v50:=Try.zeroValue92
 t53:=Try.underlying95
 a53:=Try.isAgg95
 z53:=Try.sizeOf95
 v53:=Try.zeroValue95
 t55:=Try.underlying22
 a55:=Try.isAgg22
 z55:=Try.sizeOf22
 v55:=Try.zeroValue22
 t66:=Try.underlying97
 a66:=Try.isAgg97
 z66:=Try.sizeOf97
 v66:=Try.zeroValue97
 t70:=Try.underlying101
 a70:=Try.isAgg101
 z70:=Try.sizeOf101
 v70:=Try.zeroValue101
 t76:=Try.underlying103
 a76:=Try.isAgg103
 z76:=Try.sizeOf103
 v76:=Try.zeroValue103
 t77:=Try.underlying104
 a77:=Try.isAgg104
 z77:=Try.sizeOf104
 v77:=Try.zeroValue104}
open Go.RowKit Go.Lib Go.Sort in
theorem Try.slices_SortFunc {α:Type} [Inhabited α] (enc:α→Value) (h1:OneCell enc) (cf:α→α→Int) (hO:SWO (ltOf cf)) (g:Nat) (cb:Array Value) (blk off cap:Nat) (d:Array α) (w:World) (eg:∀args w,(callFunc g args).run Try.prog w=.ok (.enter g args) w) (hcmp:CmpLays1 Try.prog g cb enc cf blk off d.size w) (hH:Holds enc w blk off d) (hblk:blk < w.heap.size) (hsz:d.size < 4611686018427387904) :
 Calls Try.prog 69 #[.slice (some ⟨blk,off,none⟩) d.size cap,.func (.func g) #[] cb] w fun e w'=>
  e=.returned (.tuple #[])∧∃d' n os,PermIn 0 d.size d d'∧SortedIn (ltOf cf) 0 d.size d'∧w'=sortWorld enc w blk off n d' os:=Any.slices_SortFunc Try.laysSlF6_f69 enc h1 cf hO g cb blk off cap d w eg hcmp hH hblk hsz
def Try.laysSlF06_f69_ren:Go.Shelf.Ren:=⟨fun | 6=>69 | 15=>77 | 14=>76 | 28=>88 | 29=>89 | 20=>80 | 21=>81 | 22=>82 | 23=>83 | 24=>84 | 25=>85 | 26=>86 | 27=>87 | 46=>91 | 47=>92 | 48=>93 | 49=>94 | 50=>95 | 57=>96 | n=>n,fun | 22=>69 | 24=>3 | 25=>37 | 3=>3 | 39=>85 | 0=>0 | 53=>95 | 55=>22 | 4=>4 | 46=>88 | 45=>87 | 50=>92 | 5=>5 | 9=>9 | 66=>97 | 70=>101 | 76=>103 | 77=>104 | n=>n,fun | n=>n⟩
theorem Try.laysSlF06_f69:Go.Proofs.SlLaysF0.n6 Try.prog Try.laysSlF06_f69_ren:={
 mixed:=by kernel_rfl
 f6:=⟨Try.f69.name,by decide,Try.func69.trans (congrArg some zk)⟩
 f14:=⟨Try.f76.name,by decide,Try.func76.trans (congrArg some zk)⟩
 f15:=Try.func77.trans (congrArg some zk)
 f20:=⟨Try.f80.name,by decide,Try.func80.trans (congrArg some zk)⟩
 f21:=⟨Try.f81.name,by decide,Try.func81.trans (congrArg some zk)⟩
 f22:=⟨Try.f82.name,by decide,Try.func82.trans (congrArg some zk)⟩
 f23:=⟨Try.f83.name,by decide,Try.func83.trans (congrArg some zk)⟩
 f24:=⟨Try.f84.name,by decide,Try.func84.trans (congrArg some zk)⟩
 f25:=⟨Try.f85.name,by decide,Try.func85.trans (congrArg some zk)⟩
 f26:=⟨Try.f86.name,by decide,Try.func86.trans (congrArg some zk)⟩
 f27:=⟨Try.f87.name,by decide,Try.func87.trans (congrArg some zk)⟩
 f28:=Try.func88.trans (congrArg some zk)
 f29:=Try.func89.trans (congrArg some zk)
 f46:=⟨Try.f91.name,by decide,Try.func91.trans (congrArg some zk)⟩
 f47:=Try.func92.trans (congrArg some zk)
 f48:=Try.func93.trans (congrArg some zk)
 f49:=⟨Try.f94.name,by decide,Try.func94.trans (congrArg some zk)⟩
 f50:=⟨Try.f95.name,by decide,Try.func95.trans (congrArg some zk)⟩
 f57:=⟨Try.f96.name,by decide,Try.func96.trans (congrArg some zk)⟩
 t0:=Try.underlying0
 a0:=Try.isAgg0
 z0:=Try.sizeOf0
 v0:=Try.zeroValue0
 t3:=Try.underlying3
 a3:=Try.isAgg3
 z3:=Try.sizeOf3
 v3:=Try.zeroValue3
 t4:=Try.underlying4
 a4:=Try.isAgg4
 z4:=Try.sizeOf4
 v4:=Try.zeroValue4
 t5:=Try.underlying5
 a5:=Try.isAgg5
 z5:=Try.sizeOf5
 v5:=Try.zeroValue5
 t9:=Try.underlying9
 a9:=Try.isAgg9
 z9:=Try.sizeOf9
 v9:=Try.zeroValue9
 t22:=Try.underlying69
 a22:=Try.isAgg69
 z22:=Try.sizeOf69
 v22:=Try.zeroValue69
 t25:=Try.underlying37
 a25:=Try.isAgg37
 z25:=Try.sizeOf37
 v25:=Try.zeroValue37
 t39:=Try.underlying85
 a39:=Try.isAgg85
 z39:=Try.sizeOf85
 v39:=Try.zeroValue85
 t45:=Try.underlying87
 a45:=Try.isAgg87
 z45:=Try.sizeOf87
 v45:=Try.zeroValue87
 t46:=Try.underlying88
 a46:=Try.isAgg88
 z46:=Try.sizeOf88
 v46:=Try.zeroValue88
 t50:=Try.underlying92
 a50:=Try.isAgg92
 z50:=Try.sizeOf92
 v50:=Try.zeroValue92
 t53:=Try.underlying95
 a53:=Try.isAgg95
 z53:=Try.sizeOf95
 v53:=Try.zeroValue95
 t55:=Try.underlying22
 a55:=Try.isAgg22
 z55:=Try.sizeOf22
 v55:=Try.zeroValue22
 t66:=Try.underlying97
 a66:=Try.isAgg97
 z66:=Try.sizeOf97
 v66:=Try.zeroValue97
 t70:=Try.underlying101
 a70:=Try.isAgg101
 z70:=Try.sizeOf101
 v70:=Try.zeroValue101
 t76:=Try.underlying103
 a76:=Try.isAgg103
 z76:=Try.sizeOf103
 v76:=Try.zeroValue103
 t77:=Try.underlying104
 a77:=Try.isAgg104
 z77:=Try.sizeOf104
 v77:=Try.zeroValue104}
open Go.RowKit Go.Lib Go.Sort in
theorem Try.slices_SortFunc_none {α:Type} [Inhabited α] (p:Option Addr) (cap:Nat) (fv:Value) (w:World) :
 Calls Try.prog 69 #[.slice p 0 cap,fv] w fun e w'=>e=.returned (.tuple #[])∧w'=w:=AnyF.slices_SortFunc_none Try.laysSlF06_f69 p cap fv w
end Go.Proofs
