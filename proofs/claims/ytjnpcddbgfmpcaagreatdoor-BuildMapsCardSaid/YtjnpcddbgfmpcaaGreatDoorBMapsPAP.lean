/-
  Texts of the proof.
-/
import Derived.Test.YtjnpcddbgfmpcaaGreatDoorBMapsPAL
import Derived.Test.YtjnpcddbgfmpcaaGreatDoorBMapsPAO
set_option linter.unusedVariables false
set_option linter.unusedSimpArgs false
set_option maxRecDepth 100000
namespace Go.Proofs.YtjnpcddbgfmpcaaGreatDoor
open Go Go.ChangeShapes Go.WideShapes Go.ChangeAt Go.RowKit Go.Joins Go.Deep
theorem YN {α:Type} (a:Array α) (n:Nat) (h:a.size=n):a.extract 0 n=a:=by subst h;simp
def encF {n:Nat} (x:Fin n):Value:=.int .i64 ((x.1:Nat):Int)
def cfF (l:List ByteArray) (x y:Fin l.length):Int:=qV l[x].data.toList l[y].data.toList
theorem swo_cfF (l:List ByteArray):Go.Sort.SWO (ltOf (cfF l)) where
 irrefl x:=vC l[x]
 trans x y z h g:=JG (a:=l[x]) (b:=l[y]) (c:=l[z]) h g
 ntrans x y z h g:=l9 (a:=l[x]) (b:=l[y]) (c:=l[z]) h g
theorem kO.moved {S:Nat→Prop} {w w':World} {v:Value} {ks:List ByteArray} (h:kO w v ks) (hm:Moved S w w') (hS:∀a n c,v=.slice (some a) n c→¬S a.block):kO w' v ks:=by
 obtain⟨a,c,rfl,h2,h3,h4,h5⟩:=h
 refine⟨a,c,rfl,h2,h3,h4,fun i s hs=>?_⟩
 obtain⟨hz,b,off,e,hc⟩:=h5 i s hs
 subst e
 exact⟨hz,b,off,rfl,hm.cell (p:=⟨b,off+i,none⟩) hc (hS ⟨b,off,none⟩ _ _ rfl)⟩
theorem fI (l:List ByteArray) (h0:0 < l.length) (hl:l.length≤1099511627776) (lv:Value) (bx blk:Nat) (w:World) (hs:kO w lv l) (hb:w.cell? ⟨bx,0,none⟩=some lv) (hbx:bx≠blk) (hlv:∀a n c,lv=.slice (some a) n c→a.block≠blk)
 (jJ:∀j,j < l.length→w.cell? ⟨blk,j,none⟩=some (.int .i64 (j:Int))∧w.frozen? ⟨blk,j,none⟩=false) (hblk:blk < w.heap.size) (cap:Nat) :
 Calls Tryz.prog 75 #[.slice (some ⟨blk,0,none⟩) l.length cap,.func (.func 76) #[] #[.pointer (some ⟨bx,0,none⟩)]] w fun r w'=>
  r=.returned (.tuple #[])∧∃p:List (Fin l.length),p.Perm (List.finRange l.length)∧(∀(i j:Nat) x y,i < j→p[i]? = some x→p[j]? = some y→ltS l[y] l[x]=false)∧(∀(i:Nat) (x:Fin l.length),p[i]? = some x→w'.cell? ⟨blk,i,none⟩=some (.int .i64 ((x.1:Nat):Int)))∧Moved (fun k=>k=blk) w w':=by
 have:Inhabited (Fin l.length):=⟨⟨0,h0⟩⟩
 have eg:∀args w,(callFunc 76 args).run Tryz.prog w=.ok (.enter 76 args) w:=enters_of Tryz.func76 zk rfl
 have hd:((List.finRange l.length).toArray).size=l.length:=by simp
 have hcmp:CmpLays1 Tryz.prog 76 #[.pointer (some ⟨bx,0,none⟩)] encF (cfF l) blk 0 ((List.finRange l.length).toArray).size w:=by
  refine CmpReads.lays fun m os dk hk x y=>?_
  have hm:=a6 (encF (n:=l.length)) w blk 0 m dk os
  exact l8 l lv bx x.1 y.1 l[x] l[y] (List.getElem?_eq_getElem x.2) (List.getElem?_eq_getElem y.2) _ (hs.moved hm (fun a n c e=>hlv a n c e)) (hm.cell hb hbx)
 have hH:Go.Sort.Holds (encF (n:=l.length)) w blk 0 (List.finRange l.length).toArray:=by
  intro j hj
  rw[hd] at hj
  rw[getElem!_pos _ j (by simpa using hj),Nat.zero_add]
  simpa [encF] using jJ j hj
 have hcon:=Tryz.slices_SortFunc (encF (n:=l.length)) (fun _=>rfl) (cfF l) (swo_cfF l) 76 #[.pointer (some ⟨bx,0,none⟩)] blk 0 cap (List.finRange l.length).toArray w eg hcmp hH hblk (by rw[hd];omega)
 rw[hd] at hcon
 refine hcon.mono ?_
 rintro r w' ⟨rfl,d',n,os,hp,hsd,rfl⟩
 obtain⟨hsz,_,hperm⟩:=hp
 have hdn:d'.size=l.length:=hsz.trans hd
 refine⟨rfl,d'.toList,?_,fun i j x y hij hx hy=>?_,fun i x hx=>?_,a6 _ w blk 0 n d' os⟩
 ·have e1:d'.extract 0 l.length=d':=YN _ _ hdn
  have e2:(List.finRange l.length).toArray.extract 0 l.length=(List.finRange l.length).toArray:=YN _ _ hd
  rw[e1,e2] at hperm
  simpa using hperm
 ·have hj:=(List.getElem?_eq_some_iff.1 hy).1
  have hi:=(List.getElem?_eq_some_iff.1 hx).1
  have h:=hsd i j (Nat.zero_le _) hij (by simpa [hdn] using hj)
  rw[getElem!_pos d' j (by simpa using hj),getElem!_pos d' i (by simpa using hi)] at h
  have ex:d'[i]'(by simpa using hi)=x:=by have:=(List.getElem?_eq_some_iff.1 hx).2;simpa using this
  have ey:d'[j]'(by simpa using hj)=y:=by have:=(List.getElem?_eq_some_iff.1 hy).2;simpa using this
  rw[ex,ey] at h
  exact h
 ·have hi:=(List.getElem?_eq_some_iff.1 hx).1
  have h:=(Go.Proofs.holds_sortWorld (encF (n:=l.length)) w blk 0 n _ d' os hblk hH hsz i (by simpa using hi)).1
  rw[getElem!_pos d' i (by simpa using hi)] at h
  have ex:d'[i]'(by simpa using hi)=x:=by have:=(List.getElem?_eq_some_iff.1 hx).2;simpa using this
  rw[ex,Nat.zero_add] at h
  exact h
end Go.Proofs.YtjnpcddbgfmpcaaGreatDoor
