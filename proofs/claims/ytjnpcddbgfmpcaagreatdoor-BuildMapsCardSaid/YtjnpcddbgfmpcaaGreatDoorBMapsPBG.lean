/-
  Texts of the proof.
-/
import Derived.Test.YtjnpcddbgfmpcaaGreatDoorBMapsPAI
import Derived.Test.YtjnpcddbgfmpcaaGreatDoorBMapsPBF
import Derived.BigQuiet
import Derived.Lib.Hide
import Derived.Deep.QuietTactic
set_option linter.unusedVariables false
set_option linter.unusedSimpArgs false
set_option maxHeartbeats 1600000
namespace Go.Proofs.YtjnpcddbgfmpcaaGreatDoor.Ft
open Go Go.RowKit
def isW (w:Int):Prop:=w=1∨w=2∨w=4∨w=8
def belowW (x w:Int):Bool:=decide (x < 2 ^ (8*w.toNat))
def fitsF (ty wd n at_ index w:Int):Bool:=
 if inlineB ty then decide (wd≤w) else decide (n≤at_) && belowW ((at_+w - 1) / w*w+index*w - n) w
theorem JP (x:Int) (w:Int) (hw:isW w) (h0:0≤x) (h1:x < 2 ^ 64):decide (widthOf x.toNat≤w)=belowW x w:=by
 obtain⟨n,rfl⟩:=Int.eq_ofNat_of_zero_le h0
 unfold belowW
 rw[decide_eq_decide]
 unfold widthOf
 rw[Int.toNat_natCast]
 rcases hw with rfl|rfl|rfl|rfl<;>simp<;>repeat' split<;>omega
abbrev mL (ty wd n:Int):Value:=.agg #[.int .i64 ty,.int .i64 wd,.int .u64 n]
theorem y9 (ty wd n at_ index v:Int) (w:World) (hv:isW v) (n0:0≤n) (n1:n≤18446744073709551615) (a0:0≤at_) (a1:at_≤1073741824) (i0:0≤index) (i1:index≤2147483648) :
 Calls Tryz.prog 90 #[mL ty wd n,.int .i64 at_,.int .i64 index,.int .i64 v] w fun e w'=>e=.returned (.bool (fitsF ty wd n at_ index v))∧jA w w':=by
 have hv0:1≤v∧v≤8:=by rcases hv with rfl | rfl | rfl | rfl<;>omega
 obtain⟨v0,v1⟩:=hv0
 by_cases hi:inlineB ty=true
 ·have hf:fitsF ty wd n at_ index v=decide (wd≤v):=by unfold fitsF;rw[if_pos hi]
  have HF:=zh hf
  clear hf
  go_enter Tryz.func90,Tryz.ntmps90
  go_wp2_with fail
  refine (inline_any _ _).mono ?_
  rintro e w1 ⟨rfl,hg⟩
  obtain⟨hc,hr,hs⟩:=hg.rules
  simp only[World.size_alloc] at hc hr hs
  go_wp2
  go_ret
  exact⟨by rw[HF.out];rfl,(jA.refl w).alloc _ |>.trans hg⟩
 ·have hi':inlineB ty=false:=by simpa using hi
  clear hi
  by_cases hn:n≤at_
  ·have hp:at_≤(at_+v - 1) / v*v:=by
    rcases hv with rfl|rfl|rfl|rfl<;>omega
   have hp2:(at_+v - 1) / v*v≤at_+7:=by
    rcases hv with rfl|rfl|rfl|rfl<;>omega
   have hm0:0≤index*v:=Int.mul_nonneg i0 (by omega)
   have hm:index*v≤2147483648*8:=Int.mul_le_mul i1 v1 (by omega) (by omega)
   have hf:fitsF ty wd n at_ index v=decide (widthOf ((at_+v - 1) / v*v+index*v - n).toNat≤v):=by
    unfold fitsF;rw[hi',JP _ _ hv (by omega) (by omega)];simp[hn]
   have HF:=zh hf
   clear hf
   go_enter Tryz.func90,Tryz.ntmps90
   go_wp2_with fail
   refine (inline_any _ _).mono ?_
   rintro e w1 ⟨rfl,hg⟩
   obtain⟨hc,hr,hs⟩:=hg.rules
   simp only[World.size_alloc] at hc hr hs
   go_wp2_with fail
   refine (widthOf_any _ _ (by omega) (by omega)).mono ?_
   rintro e w2 ⟨rfl,rfl⟩
   go_wp2
   go_ret
   exact⟨by rw[HF.out];rfl,(jA.refl w).alloc _ |>.trans hg⟩
  ·have hf:fitsF ty wd n at_ index v=false:=by unfold fitsF;rw[hi'];simp[hn]
   have HF:=zh hf
   clear hf
   go_enter Tryz.func90,Tryz.ntmps90
   go_wp2_with fail
   refine (inline_any _ _).mono ?_
   rintro e w1 ⟨rfl,hg⟩
   obtain⟨hc,hr,hs⟩:=hg.rules
   simp only[World.size_alloc] at hc hr hs
   go_wp2
   go_ret
   exact⟨by rw[HF.out];rfl,(jA.refl w).alloc _ |>.trans hg⟩
end Go.Proofs.YtjnpcddbgfmpcaaGreatDoor.Ft
