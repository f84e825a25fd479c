/-
  Texts of the proof.
-/
import Derived.Test.YtjnpcddbgfmpcaaGreatBTextsPAH
import Derived.Test.YtjnpcddbgfmpcaaGreatBTextsPAA
import Derived.Maps.OwnOps
import Derived.Maps.Views
import Derived.Lib.IndexAny
set_option linter.unusedVariables false
set_option linter.unusedSimpArgs false
set_option maxHeartbeats 4000000
set_option maxRecDepth 100000
namespace Go.Proofs.YtjnpcddbgfmpcaaGreat
open Go Go.ChangeShapes Go.WideShapes Go.ChangeAt Go.RowKit Go.Joins Go.Deep
theorem fG (l:List ByteArray) (lv:Value) (bx i j:Nat) (x y:ByteArray) (hx:l[i]? = some x) (hy:l[j]? = some y) (W:World) (hs:kM W lv l) (hb:W.cell? ⟨bx,0,none⟩=some lv) :
 Calls Tryz.prog 164 #[.int .i64 i,.int .i64 j,.pointer (some ⟨bx,0,none⟩)] W fun e w'=>e=.returned (.int .i64 (Lib.compareBytes x.data.toList y.data.toList))∧∃q,w'=W.drewN q:=by
 have hi:i < l.length:=(List.getElem?_eq_some_iff.1 hx).1
 have hj:j < l.length:=(List.getElem?_eq_some_iff.1 hy).1
 obtain⟨a,c,rfl,hlc,hc,_,j4⟩:=hs
 obtain⟨_,b,off,rfl,h0⟩:=j4 i x hx
 obtain⟨_,b',off',e,h1⟩:=j4 j y hy
 cases e
 have hcmp:=Tryz.strings_Compare x y
 have HC:=zh hcmp
 unfold zA at hc
 have hii:(i:Int) < l.length:=by omega
 have hji:(j:Int) < l.length:=by omega
 clear j4 hx hy hcmp
 generalize Lib.compareBytes x.data.toList y.data.toList=q at *
 go_enter Tryz.func164,Tryz.ntmps164
 go_wp2_with fail
 go_quiet ((go_at_call 165;exact Calls.quiet_of_same (HC.out _)))
 go_wp2
 go_ret
 exact⟨rfl,_,rfl⟩
abbrev qI:=Lib.compareBytes
theorem aD:∀a:List UInt8,qI a a=0
 | []=>rfl
 | x::a=>by
  show (if x < x then (-1:Int) else if x < x then 1 else qI a a)=0
  rw[if_neg (UInt8.lt_irrefl x),if_neg (UInt8.lt_irrefl x),aD a]
theorem aE:∀a b:List UInt8,qI b a = - qI a b
 | [],[]=>rfl
 | [],_::_=>rfl
 | _::_,[]=>rfl
 | x::a,y::b=>by
  show (if y < x then (-1:Int) else if x < y then 1 else qI b a) = - (if x < y then (-1:Int) else if y < x then 1 else qI a b)
  by_cases h1:x < y
  ·have h2:¬y < x:=fun h=>UInt8.lt_irrefl _ (UInt8.lt_trans h1 h)
   rw[if_neg h2,if_pos h1,if_pos h1];rfl
  ·by_cases h2:y < x
   ·rw[if_pos h2,if_neg h1,if_pos h2]
   ·rw[if_neg h2,if_neg h1,if_neg h1,if_neg h2]
    exact aE a b
theorem aF:∀a b:List UInt8,qI a b=0→a=b
 | [],[],_=>rfl
 | [],_::_,h=>by simp[qI,Lib.compareBytes] at h
 | _::_,[],h=>by simp[qI,Lib.compareBytes] at h
 | x::a,y::b,h=>by
  have h':(if x < y then (-1:Int) else if y < x then 1 else qI a b)=0:=h
  by_cases h1:x < y
  ·rw[if_pos h1] at h';omega
  ·by_cases h2:y < x
   ·rw[if_neg h1,if_pos h2] at h';omega
   ·rw[if_neg h1,if_neg h2] at h'
    have hxy:x=y:=by
     apply UInt8.toNat_inj.1
     have q1:¬x.toNat < y.toNat:=fun h=>h1 (UInt8.lt_iff_toNat_lt.2 h)
     have q2:¬y.toNat < x.toNat:=fun h=>h2 (UInt8.lt_iff_toNat_lt.2 h)
     omega
    rw[hxy,aF a b h']
theorem QY:∀a b c:List UInt8,qI a b < 0→qI b c < 0→qI a c < 0
 | [],[],_,h,_=>by simp[qI,Lib.compareBytes] at h
 | [],_::_,[],_,h=>by simp[qI,Lib.compareBytes] at h
 | [],_::_,_::_,_,_=>by simp[qI,Lib.compareBytes]
 | _::_,[],_,h,_=>by simp[qI,Lib.compareBytes] at h
 | _::_,_::_,[],_,h=>by simp[qI,Lib.compareBytes] at h
 | x::a,y::b,z::c,h,g=>by
  have h':(if x < y then (-1:Int) else if y < x then 1 else qI a b) < 0:=h
  have g':(if y < z then (-1:Int) else if z < y then 1 else qI b c) < 0:=g
  show (if x < z then (-1:Int) else if z < x then 1 else qI a c) < 0
  simp only[UInt8.lt_iff_toNat_lt] at *
  by_cases h1:x.toNat < y.toNat
  ·by_cases g1:y.toNat < z.toNat
   ·rw[if_pos (by omega)];omega
   ·by_cases g2:z.toNat < y.toNat
    ·rw[if_neg g1,if_pos g2] at g';omega
    ·rw[if_pos (by omega)];omega
  ·by_cases h2:y.toNat < x.toNat
   ·rw[if_neg h1,if_pos h2] at h';omega
   ·rw[if_neg h1,if_neg h2] at h'
    by_cases g1:y.toNat < z.toNat
    ·rw[if_pos (by omega)];omega
    ·by_cases g2:z.toNat < y.toNat
     ·rw[if_neg g1,if_pos g2] at g';omega
     ·rw[if_neg g1,if_neg g2] at g'
      rw[if_neg (by omega),if_neg (by omega)]
      exact QY a b c h' g'
def ltS (a b:ByteArray):Bool:=decide (qI a.data.toList b.data.toList < 0)
theorem JP (a:ByteArray):ltS a a=false:=by simp[ltS,aD]
theorem JG {a b c:ByteArray} (h:ltS a b=true) (g:ltS b c=true):ltS a c=true:=by
 simp only[ltS,decide_eq_true_eq] at *
 exact QY _ _ _ h g
theorem YM {a b:ByteArray} (h:ltS a b=false) (g:ltS b a=false):a=b:=by
 simp only[ltS,decide_eq_false_iff_not] at *
 have hf:=aE a.data.toList b.data.toList
 exact bytes_inj (aF _ _ (by omega))
theorem fH {a b c:ByteArray} (h:ltS a b=false) (g:ltS b c=false):ltS a c=false:=by
 cases hc:ltS a c with
 | false=>rfl
 | true=>
  exfalso
  cases hb:ltS b a with
  | true=>have:=JG hb hc;rw[g] at this;cases this
  | false=>
   have e:=YM h hb
   subst e
   rw[g] at hc;cases hc
theorem QZ {α:Type} [Inhabited α] (enc:α→Value) (w:World) (blk off m:Nat) (dk:Array α) (os:Array Obj):Moved (fun k=>k=blk) w (sortWorld enc w blk off m dk os):=by
 refine⟨rfl,rfl,rfl,?_,fun k hk hne=>?_⟩
 ·simp[sortWorld,Go.Sort.grow,Go.Sort.putRow,Go.Sort.mapBlock,Go.Sort.ahead]
 ·simp only[sortWorld,Go.Sort.grow,Go.Sort.putRow,Go.Sort.mapBlock,Go.Sort.ahead]
  rw[Array.getElem?_append_left (by simpa using hk),Array.getElem?_modify,if_neg (fun e=>hne e.symm)]
theorem ZD {α:Type} (a:Array α) (n:Nat) (h:a.size=n):a.extract 0 n=a:=by subst h;simp
def encF {n:Nat} (x:Fin n):Value:=.int .i64 ((x.1:Nat):Int)
def cfF (l:List ByteArray) (x y:Fin l.length):Int:=qI l[x].data.toList l[y].data.toList
theorem swo_cfF (l:List ByteArray):Go.Sort.SWO (ltOf (cfF l)) where
 irrefl x:=JP l[x]
 trans x y z h g:=JG (a:=l[x]) (b:=l[y]) (c:=l[z]) h g
 ntrans x y z h g:=fH (a:=l[x]) (b:=l[y]) (c:=l[z]) h g
theorem kM.moved {S:Nat→Prop} {w w':World} {v:Value} {ks:List ByteArray} (h:kM w v ks) (hm:Moved S w w') (hS:∀a n c,v=.slice (some a) n c→¬S a.block):kM w' v ks:=by
 obtain⟨a,c,rfl,h2,h3,h4,h5⟩:=h
 refine⟨a,c,rfl,h2,h3,h4,fun i s hs=>?_⟩
 obtain⟨hz,b,off,e,hc⟩:=h5 i s hs
 subst e
 exact⟨hz,b,off,rfl,hm.cell (p:=⟨b,off+i,none⟩) hc (hS ⟨b,off,none⟩ _ _ rfl)⟩
theorem bV (l:List ByteArray) (h0:0 < l.length) (hl:l.length≤1099511627776) (lv:Value) (bx blk:Nat) (w:World) (hs:kM w lv l) (hb:w.cell? ⟨bx,0,none⟩=some lv) (hbx:bx≠blk) (hlv:∀a n c,lv=.slice (some a) n c→a.block≠blk)
 (jL:∀j,j < l.length→w.cell? ⟨blk,j,none⟩=some (.int .i64 (j:Int))∧w.frozen? ⟨blk,j,none⟩=false) (hblk:blk < w.heap.size) (cap:Nat) :
 Calls Tryz.prog 163 #[.slice (some ⟨blk,0,none⟩) l.length cap,.func (.func 164) #[] #[.pointer (some ⟨bx,0,none⟩)]] w fun r w'=>
  r=.returned (.tuple #[])∧∃p:List (Fin l.length),p.Perm (List.finRange l.length)∧(∀(i j:Nat) x y,i < j→p[i]? = some x→p[j]? = some y→ltS l[y] l[x]=false)∧(∀(i:Nat) (x:Fin l.length),p[i]? = some x→w'.cell? ⟨blk,i,none⟩=some (.int .i64 ((x.1:Nat):Int)))∧Moved (fun k=>k=blk) w w':=by
 have:Inhabited (Fin l.length):=⟨⟨0,h0⟩⟩
 have eg:∀args w,(callFunc 164 args).run Tryz.prog w=.ok (.enter 164 args) w:=enters_of Tryz.func164 zk rfl
 have hd:((List.finRange l.length).toArray).size=l.length:=by simp
 have hcmp:CmpLays1 Tryz.prog 164 #[.pointer (some ⟨bx,0,none⟩)] encF (cfF l) blk 0 ((List.finRange l.length).toArray).size w:=by
  refine CmpReads.lays fun m os dk hk x y=>?_
  have hm:=QZ (encF (n:=l.length)) w blk 0 m dk os
  exact fG l lv bx x.1 y.1 l[x] l[y] (List.getElem?_eq_getElem x.2) (List.getElem?_eq_getElem y.2) _ (hs.moved hm (fun a n c e=>hlv a n c e)) (hm.cell hb hbx)
 have hH:Go.Sort.Holds (encF (n:=l.length)) w blk 0 (List.finRange l.length).toArray:=by
  intro j hj
  rw[hd] at hj
  rw[getElem!_pos _ j (by simpa using hj),Nat.zero_add]
  simpa [encF] using jL j hj
 have hcon:=Tryz.slices_SortFunc (encF (n:=l.length)) (fun _=>rfl) (cfF l) (swo_cfF l) 164 #[.pointer (some ⟨bx,0,none⟩)] blk 0 cap (List.finRange l.length).toArray w eg hcmp hH hblk (by rw[hd];omega)
 rw[hd] at hcon
 refine hcon.mono ?_
 rintro r w' ⟨rfl,d',n,os,hp,hsd,rfl⟩
 obtain⟨hsz,_,hperm⟩:=hp
 have hdn:d'.size=l.length:=hsz.trans hd
 refine⟨rfl,d'.toList,?_,fun i j x y hij hx hy=>?_,fun i x hx=>?_,QZ _ w blk 0 n d' os⟩
 ·have e1:d'.extract 0 l.length=d':=ZD _ _ hdn
  have e2:(List.finRange l.length).toArray.extract 0 l.length=(List.finRange l.length).toArray:=ZD _ _ hd
  rw[e1,e2] at hperm
  simpa using hperm
 ·have hj:=(List.getElem?_eq_some_iff.1 hy).1
  have hi:=(List.getElem?_eq_some_iff.1 hx).1
  have h:=hsd i j (Nat.zero_le _) hij (by simpa [hdn] using hj)
  rw[getElem!_pos d' j (by simpa using hj),getElem!_pos d' i (by simpa using hi)] at h
  have ex:d'[i]'(by simpa using hi)=x:=by have:=(List.getElem?_eq_some_iff.1 hx).2;simpa using this
  have ey:d'[j]'(by simpa using hj)=y:=by have:=(List.getElem?_eq_some_iff.1 hy).2;simpa using this
  rw[ex,ey] at h
  exact h
 ·have hi:=(List.getElem?_eq_some_iff.1 hx).1
  have h:=(Go.Proofs.holds_sortWorld (encF (n:=l.length)) w blk 0 n _ d' os hblk hH hsz i (by simpa using hi)).1
  rw[getElem!_pos d' i (by simpa using hi)] at h
  have ex:d'[i]'(by simpa using hi)=x:=by have:=(List.getElem?_eq_some_iff.1 hx).2;simpa using this
  rw[ex,Nat.zero_add] at h
  exact h
end Go.Proofs.YtjnpcddbgfmpcaaGreat
