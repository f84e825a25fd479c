/-
  Texts of the proof.
-/
import Derived.Test.YtjnpcddbgfmpcaaGreatDoorBMapsPAN
import Derived.Test.YtjnpcddbgfmpcaaGreatDoorBMapsPAK
import Derived.Maps.OwnOps
import Derived.Maps.Views
import Derived.Lib.IndexAny
set_option linter.unusedVariables false
set_option linter.unusedSimpArgs false
set_option maxHeartbeats 4000000
set_option maxRecDepth 100000
namespace Go.Proofs.YtjnpcddbgfmpcaaGreatDoor
open Go Go.ChangeShapes Go.WideShapes Go.ChangeAt Go.RowKit Go.Joins Go.Deep
def nY (s:ByteArray):Bool:=decide ((0:UInt8)∈s.data.toList)
theorem l8 (l:List ByteArray) (lv:Value) (bx i j:Nat) (x y:ByteArray) (hx:l[i]? = some x) (hy:l[j]? = some y) (W:World) (hs:kO W lv l) (hb:W.cell? ⟨bx,0,none⟩=some lv) :
 Calls Tryz.prog 76 #[.int .i64 i,.int .i64 j,.pointer (some ⟨bx,0,none⟩)] W fun e w'=>e=.returned (.int .i64 (Lib.compareBytes x.data.toList y.data.toList))∧∃q,w'=W.drewN q:=by
 have hi:i < l.length:=(List.getElem?_eq_some_iff.1 hx).1
 have hj:j < l.length:=(List.getElem?_eq_some_iff.1 hy).1
 obtain⟨a,c,rfl,hlc,hc,_,j2⟩:=hs
 obtain⟨_,b,off,rfl,h0⟩:=j2 i x hx
 obtain⟨_,b',off',e,h1⟩:=j2 j y hy
 cases e
 have hcmp:=Tryz.strings_Compare x y
 have HC:=zh hcmp
 unfold k9 at hc
 have hii:(i:Int) < l.length:=by omega
 have hji:(j:Int) < l.length:=by omega
 clear j2 hx hy hcmp
 generalize Lib.compareBytes x.data.toList y.data.toList=q at *
 go_enter Tryz.func76,Tryz.ntmps76
 go_wp2_with fail
 go_quiet ((go_at_call 77;exact Calls.quiet_of_same (HC.out _)))
 go_wp2
 go_ret
 exact⟨rfl,_,rfl⟩
abbrev qV:=Lib.compareBytes
theorem dM:∀a:List UInt8,qV a a=0
 | []=>rfl
 | x::a=>by
  show (if x < x then (-1:Int) else if x < x then 1 else qV a a)=0
  rw[if_neg (UInt8.lt_irrefl x),if_neg (UInt8.lt_irrefl x),dM a]
theorem dN:∀a b:List UInt8,qV b a = - qV a b
 | [],[]=>rfl
 | [],_::_=>rfl
 | _::_,[]=>rfl
 | x::a,y::b=>by
  show (if y < x then (-1:Int) else if x < y then 1 else qV b a) = - (if x < y then (-1:Int) else if y < x then 1 else qV a b)
  by_cases h1:x < y
  ·have h2:¬y < x:=fun h=>UInt8.lt_irrefl _ (UInt8.lt_trans h1 h)
   rw[if_neg h2,if_pos h1,if_pos h1];rfl
  ·by_cases h2:y < x
   ·rw[if_pos h2,if_neg h1,if_pos h2]
   ·rw[if_neg h2,if_neg h1,if_neg h1,if_neg h2]
    exact dN a b
theorem dO:∀a b:List UInt8,qV a b=0→a=b
 | [],[],_=>rfl
 | [],_::_,h=>by simp[qV,Lib.compareBytes] at h
 | _::_,[],h=>by simp[qV,Lib.compareBytes] at h
 | x::a,y::b,h=>by
  have h':(if x < y then (-1:Int) else if y < x then 1 else qV a b)=0:=h
  by_cases h1:x < y
  ·rw[if_pos h1] at h';omega
  ·by_cases h2:y < x
   ·rw[if_neg h1,if_pos h2] at h';omega
   ·rw[if_neg h1,if_neg h2] at h'
    have hxy:x=y:=by
     apply UInt8.toNat_inj.1
     have q1:¬x.toNat < y.toNat:=fun h=>h1 (UInt8.lt_iff_toNat_lt.2 h)
     have q2:¬y.toNat < x.toNat:=fun h=>h2 (UInt8.lt_iff_toNat_lt.2 h)
     omega
    rw[hxy,dO a b h']
theorem aZ:∀a b c:List UInt8,qV a b < 0→qV b c < 0→qV a c < 0
 | [],[],_,h,_=>by simp[qV,Lib.compareBytes] at h
 | [],_::_,[],_,h=>by simp[qV,Lib.compareBytes] at h
 | [],_::_,_::_,_,_=>by simp[qV,Lib.compareBytes]
 | _::_,[],_,h,_=>by simp[qV,Lib.compareBytes] at h
 | _::_,_::_,[],_,h=>by simp[qV,Lib.compareBytes] at h
 | x::a,y::b,z::c,h,g=>by
  have h':(if x < y then (-1:Int) else if y < x then 1 else qV a b) < 0:=h
  have g':(if y < z then (-1:Int) else if z < y then 1 else qV b c) < 0:=g
  show (if x < z then (-1:Int) else if z < x then 1 else qV a c) < 0
  simp only[UInt8.lt_iff_toNat_lt] at *
  by_cases h1:x.toNat < y.toNat
  ·by_cases g1:y.toNat < z.toNat
   ·rw[if_pos (by omega)];omega
   ·by_cases g2:z.toNat < y.toNat
    ·rw[if_neg g1,if_pos g2] at g';omega
    ·rw[if_pos (by omega)];omega
  ·by_cases h2:y.toNat < x.toNat
   ·rw[if_neg h1,if_pos h2] at h';omega
   ·rw[if_neg h1,if_neg h2] at h'
    by_cases g1:y.toNat < z.toNat
    ·rw[if_pos (by omega)];omega
    ·by_cases g2:z.toNat < y.toNat
     ·rw[if_neg g1,if_pos g2] at g';omega
     ·rw[if_neg g1,if_neg g2] at g'
      rw[if_neg (by omega),if_neg (by omega)]
      exact aZ a b c h' g'
def ltS (a b:ByteArray):Bool:=decide (qV a.data.toList b.data.toList < 0)
theorem vC (a:ByteArray):ltS a a=false:=by simp[ltS,dM]
theorem JG {a b c:ByteArray} (h:ltS a b=true) (g:ltS b c=true):ltS a c=true:=by
 simp only[ltS,decide_eq_true_eq] at *
 exact aZ _ _ _ h g
theorem VD {a b:ByteArray} (h:ltS a b=false) (g:ltS b a=false):a=b:=by
 simp only[ltS,decide_eq_false_iff_not] at *
 have hf:=dN a.data.toList b.data.toList
 exact bytes_inj (dO _ _ (by omega))
theorem l9 {a b c:ByteArray} (h:ltS a b=false) (g:ltS b c=false):ltS a c=false:=by
 cases hc:ltS a c with
 | false=>rfl
 | true=>
  exfalso
  cases hb:ltS b a with
  | true=>have:=JG hb hc;rw[g] at this;cases this
  | false=>
   have e:=VD h hb
   subst e
   rw[g] at hc;cases hc
theorem a6 {α:Type} [Inhabited α] (enc:α→Value) (w:World) (blk off m:Nat) (dk:Array α) (os:Array Obj):Moved (fun k=>k=blk) w (sortWorld enc w blk off m dk os):=by
 refine⟨rfl,rfl,rfl,?_,fun k hk hne=>?_⟩
 ·simp[sortWorld,Go.Sort.grow,Go.Sort.putRow,Go.Sort.mapBlock,Go.Sort.ahead]
 ·simp only[sortWorld,Go.Sort.grow,Go.Sort.putRow,Go.Sort.mapBlock,Go.Sort.ahead]
  rw[Array.getElem?_append_left (by simpa using hk),Array.getElem?_modify,if_neg (fun e=>hne e.symm)]
end Go.Proofs.YtjnpcddbgfmpcaaGreatDoor
