/-
  Texts of the proof.
-/
import Derived.Test.YtdjoffgkndncfaaGreatDBuiltPBJ
import Derived.Test.YtdjoffgkndncfaaGreatDBuiltPBH
set_option linter.unusedVariables false
set_option linter.unusedSimpArgs false
namespace Go.Proofs.YtdjoffgkndncfaaGreat
open Go Go.ChangeShapes Go.WideShapes Go.ChangeAt Go.RowKit Go.Joins
open Go.Proofs.YtdjoffgkndncfaaGreat.Ft (V3 vV okV ValsAt inlineB legalB packF codeF typedF allF)
def V4 (v:V3):List Value:=[.int .i64 v.1,.int .i64 v.2.1,.int .u64 v.2.2]
def zI (l:List V3):List Value:=l.flatMap V4
theorem ZX (l:List V3):(zI l).length=l.length*3:=by
 induction l with
 | nil=>rfl
 | cons v r ih=>
  have:zI (v::r)=V4 v++zI r:=rfl;rw[this,List.length_append,ih,List.length_cons];show 3+_=_;omega
theorem VK (l m:List V3):zI (l++m)=zI l++zI m:=by simp[zI]
theorem dD (l:List V3) (i:Nat) (v:V3) (h:l[i]? = some v):(zI l)[i*3]? = some (.int .i64 v.1)∧(zI l)[i*3+1]? = some (.int .i64 v.2.1)∧(zI l)[i*3+2]? = some (.int .u64 v.2.2):=by
 induction l generalizing i with
 | nil=>simp at h
 | cons u r ih=>
  have e:zI (u::r)=.int .i64 u.1::.int .i64 u.2.1::.int .u64 u.2.2::zI r:=rfl;rw[e]
  cases i with
  | zero=>simp at h;subst h;simp
  | succ i=>
   have h2:=ih i r8;rw[show (i+1)*3=i*3+1+1+1 by omega,show i*3+1+1+1+1=(i*3+1)+1+1+1 by omega,show i*3+1+1+1+2=(i*3+2)+1+1+1 by omega];simpa only [List.getElem?_cons_succ] using h2
def jT (w:World) (B:Nat) (v:Value) (l:List V3):Prop:=w.ownsRow B 135 3 v l.length (zI l)
theorem jT.vals {w:World} {B:Nat} {v:Value} {l:List V3} (h:jT w B v l):ValsAt w v l:=by
 have h0:=h;obtain⟨_,h2⟩:=h;rcases h2 with ⟨rfl,hn⟩|⟨g,cap,cur,rfl,_,_,hn,_⟩
 ·have:l=[]:=List.length_eq_zero_iff.1 hn;subst this;exact⟨none,0,rfl,fun i x hx=>by simp at hx⟩
 ·refine⟨some ⟨g,0,none⟩,cap,rfl,fun i x hx=>⟨g,0,rfl,?_⟩⟩;have hi:=(List.getElem?_eq_some_iff.1 hx).1;obtain⟨e0,e1,e2⟩:=dD l i x hx;have hc:=World.ownsRow.cells h0 rfl
  have a:∀j,(⟨g,0,none⟩:Addr).add j=⟨g,0+j,none⟩:=by
   intro j;unfold Addr.add;split
   ·rename_i h;subst h;rfl
   ·rfl
  have c0:=hc _ _ e0;have c1:=hc _ _ e1;have c2:=hc _ _ e2;rw[a] at c0 c1 c2;exact⟨c0,c1,c2⟩
theorem Tryz.infoVal:(Tryz.prog.info? 135).map (fun i=>(i.zero,i.size,i.bytes))=some (some (.agg #[.int .i64 0,.int .i64 0,.int .u64 0]),3,24):=by kernel_rfl
theorem n8:∃i0,Tryz.prog.info? 135=some i0∧i0.zero=some (.agg #[.int .i64 0,.int .i64 0,.int .u64 0])∧i0.size=3∧i0.bytes=24:=by
 have h:=Tryz.infoVal
 cases hq:Tryz.prog.info? 135 with
 | none=>simp[hq] at h
 | some i=>simp[hq] at h;exact⟨i,rfl,h.1,h.2.1,h.2.2⟩
theorem lD {w:World} {ad:Addr} {cap:Nat} {l:List V3} (h:ValsAt w (.slice (some ad) l.length cap) l):∀j u,(zI l)[j]? = some u→w.cell? (ad.add j)=some u:=by
 obtain⟨a0,c0,e,hc⟩:=h;cases e;intro j u hj;have hjl:j < l.length*3:=by rw[← ZX];exact (List.getElem?_eq_some_iff.1 hj).1
 have hd:j / 3 < l.length:=by omega
 have hq:j=j / 3*3∨j=j / 3*3+1∨j=j / 3*3+2:=by omega
 obtain⟨x,hx⟩:∃x,l[j / 3]? = some x:=⟨_,List.getElem?_eq_getElem hd⟩;obtain⟨b,off,e,d0,d1,d2⟩:=hc (j / 3) x hx;cases e;obtain⟨e0,e1,e2⟩:=dD l (j / 3) x hx;generalize j / 3=q at *
 have:(⟨b,off,none⟩:Addr).add j=⟨b,off+j,none⟩:=by
  unfold Addr.add;split
  ·rename_i h;subst h;rfl
  ·rfl
 rw[this];rcases hq with h|h|h
 ·rw[h] at hj;rw[e0] at hj;cases hj;rw[h];exact d0
 ·rw[h] at hj;rw[e1] at hj;cases hj;rw[h];exact d1
 ·rw[h] at hj;rw[e2] at hj;cases hj;rw[h];exact d2
theorem dE (l:List V3):∀u∈zI l,u.oneCell'=true:=by
 intro u hu;simp only[zI,List.mem_flatMap,V4,List.mem_cons,List.not_mem_nil,or_false] at hu;obtain⟨x,_,rfl|rfl|rfl⟩:=hu<;>rfl
theorem qA {ops:Array Oper} {rest:List Oper} {o:Oper} {a:Act} {w:World} {Q:Exit→Act→World→Prop} (hgd:o.guard=none) (s x:Operand)
 (ho:o.op=.call {callee:=.builtin .append,args:=#[s,x],argTypes:=#[109,109]}) (B:Nat) (v:Value) (l:List V3) (hs:a.eval s=v) (j8:jT w B v l)
 (sv:Value) (l2:List V3) (hx:a.eval x=sv) (hsv:ValsAt w sv l2) (zQ:∀c,sv=.slice none 0 c→c=0) (kI:l.length+l2.length≤1048576) (hB:B≤w.heap.size)
 (h:∀v' w',jT w' B v' (l++l2)→w.grownBy w' v.ownBlock→yV w v.ownBlock v'.ownBlock→wpList Tryz.prog ops Q rest (a.put o.dst v') w'):wpList Tryz.prog ops Q (o::rest) a w:=by
 obtain⟨i0,hi,hz0,hz1,hz2⟩:=n8;have hsv0:=hsv;obtain⟨sa,cap,rfl,hc⟩:=hsv
 cases sa with
 | none=>
  have h0:l2=[]:=by
   cases l2 with
   | nil=>rfl
   | cons y r=>obtain⟨b,off,e,_⟩:=hc 0 y rfl;cases e
  subst h0;have:=zQ cap rfl;subst this;refine wpList_append_own_none hgd s x 109 ho B 135 i0 3 Tryz.underlying109 hi v l.length _ hs j8 hx ?_;exact h v w zp25 ⟨rfl,rfl,rfl,Nat.le_refl _,fun _ _ _=>rfl⟩ (yV.refl _ _)
 | some ad=>
  obtain⟨v',w',hr,h2,h3,h4⟩:=vN (P:=Tryz.prog) w B 109 o.type 135 i0 (.agg #[.int .i64 0,.int .i64 0,.int .u64 0]) 3 24 Tryz.underlying109 hi hz0 hz1 hz2 rfl zd v l.length _ j8 ad l2.length cap (zI l2) (ZX l2) (lD hsv0) (dE l2) gM zo hB;refine wpList_plain hgd fun _ hK=>Lib.wp_append_run w s x 109 109 ho v _ hs hx v' w' hr (hK _ _ (h v' w' ?_ h3 h4));unfold jT;rw[List.length_append,VK];exact h2
theorem vX {w w':World} {B:Nat} {v:Value} {l:List V3} (h:jT w B v l) (hg:jD w w'):jT w' B v l:=Moved.owns (Moved.of_grew (S:=fun _=>False) hg) h (fun _ _ h=>h)
theorem YN (w:World) (x:V3):ValsAt (w.alloc (.cells #[.int .i64 x.1,.int .i64 x.2.1,.int .u64 x.2.2] 135)) (.slice (some ⟨w.heap.size,0,none⟩) 1 1) [x]:=by
 have h:=heap_alloc_new w (.cells #[.int .i64 x.1,.int .i64 x.2.1,.int .u64 x.2.2] 135);refine⟨_,1,rfl,fun i y hy=>?_⟩;have hi:i=0:=by have:=(List.getElem?_eq_some_iff.1 hy).1;simp at this;omega
 subst hi;simp at hy;subst hy;exact⟨_,_,rfl,jN h 0 _ rfl,jN h 1 _ rfl,jN h 2 _ rfl⟩
theorem zA {w:World} {B:Nat} {v:Value} {l:List V3} (h:jT w B v l):∃a c,v=.slice a l.length c∧(a=none→c=0):=by
 rcases h.2 with ⟨rfl,hn⟩|⟨g,cap,cur,rfl,_,_,hn,_⟩
 ·exact⟨none,0,by rw[hn],fun _=>rfl⟩
 ·exact⟨_,cap,rfl,fun h=>by cases h⟩
theorem V5 {w wr w':World} {v:Value} {l:List V3} (h:jT wr w.heap.size v l) (hg:jD w wr) (hgr:wr.grownBy w' v.ownBlock):jD w w':=by
 have hgr2:Moved (fun k=>some k=v.ownBlock) wr w':=Moved.of_grown hgr;refine⟨hgr2.os.trans hg.os,hgr2.tape.trans hg.tape,hgr2.output.trans hg.output,Nat.le_trans hg.size hgr2.size,fun k hk=>?_⟩;refine (hgr2.block k (Nat.lt_of_lt_of_le hk hg.size) fun e=>?_).trans (hg.block k hk);rcases h.2 with ⟨rfl,hn⟩|⟨g,cap,cur,rfl,hb,_,_⟩
 ·cases e
 ·have:k=g:=by injection e
  omega
section
variable {lv:Value} {l:List V3} {jB:Int} {s:St}
end
abbrev bB:ByteArray:=⟨#[97,98,99]⟩
end Go.Proofs.YtdjoffgkndncfaaGreat
namespace Go.Proofs.YtdjoffgkndncfaaGreat
open Go Go.ChangeShapes Go.WideShapes Go.ChangeAt Go.RowKit Go.Joins
open Go.Proofs.YtdjoffgkndncfaaGreat.Ft (V3 vV okV ValsAt inlineB legalB packF codeF typedF allF allAt headF fitsL fitsV fitsF belowW isA)
section
variable {jB x u:Int} {y:List UInt8} {s:St} {v:V3}
theorem YO (h:s.2≠0):kQ jB y s=s:=by
 obtain⟨b,e⟩:=s;show (VQ b y jB e,cL b y jB e)=(b,e);unfold VQ cL;rw[if_neg (fun k=>h k.1),if_neg (fun k=>h k.1)]
theorem fL (z:Int) (h:s.2≠0):bF z s=s:=by
 obtain⟨b,e⟩:=s;show (b,zH e z)=(b,e);unfold zH;rw[if_neg h]
theorem lE (h:s.2≠0):j7 jB x u s=s:=by
 unfold j7;split
 ·split
  ·exact YO h
  ·exact fL _ h
 ·exact fL _ h
theorem tW (h:s.2≠0):qF jB x s v=s:=by
 unfold qF;split<;>exact lE h
theorem Z6 (h:s.2≠0):∀l:List V3,jY jB x l s=s
 | []=>rfl
 | v::r=>by
  show jY jB x r (qF jB x s v)=s;rw[tW h];exact Z6 h r
end
theorem aS {jB:Int} {l y:List UInt8} (hf:¬(l.length:Int)+y.length≤jB):kQ jB y (l,0)=(l,5):=by
 show (VQ l y jB 0,cL l y jB 0)=_;unfold VQ cL;rw[if_neg (fun k=>hf (by have:=k.2;omega)),if_pos ⟨rfl,fun k=>hf zo⟩]
def qG (jB:Int):List (List UInt8)→St→St
 | [],s=>s
 | y::r,s=>qG jB r (kQ jB y s)
theorem Z7 (jB:Int):∀(ys zs:List (List UInt8)) (s:St),qG jB (ys++zs) s=qG jB zs (qG jB ys s)
 | [],_,_=>rfl
 | y::r,zs,s=>Z7 jB r zs (kQ jB y s)
theorem KI {jB:Int} {s:St} (h:s.2≠0):∀ys,qG jB ys s=s
 | []=>rfl
 | y::r=>by
  show qG jB r (kQ jB y s)=s;rw[YO h];exact KI h r
theorem YC {jB:Int}:∀(ys:List (List UInt8)) (b:List UInt8),(b.length:Int)+ys.flatten.length≤jB→qG jB ys (b,0)=(b++ys.flatten,0)
 | [],b,_=>by simp[qG]
 | y::r,b,h=>by
  have h2:(b.length:Int)+y.length+r.flatten.length≤jB:=by simp at h⊢;omega
  show qG jB r (kQ jB y (b,0))=_;rw[JK jB b y zo,YC r (b++y) (by simp at h2⊢;omega)];simp
theorem lF {jB:Int}:∀(ys:List (List UInt8)) (b:List UInt8),(b.length:Int)≤jB→¬(b.length:Int)+ys.flatten.length≤jB→(qG jB ys (b,0)).2=5∧((qG jB ys (b,0)).1.length:Int)≤jB
 | [],b,hb,h=>absurd (by simpa using hb) h
 | y::r,b,hb,h=>by
  show (qG jB r (kQ jB y (b,0))).2=5∧((qG jB r (kQ jB y (b,0))).1.length:Int)≤jB;by_cases hy:(b.length:Int)+y.length≤jB
  ·rw[JK jB b y hy];exact lF r (b++y) (by simpa using hy) (by simp at h⊢;omega)
  ·rw[aS hy,KI (s:=(b,5)) (show (5:Int)≠0 by decide)];exact⟨rfl,hb⟩
def Z8 (x p:Int) (v:V3):Int:=if inlineB v.1 then zW v.2.2 x else p - v.2.2
def YU (x:Int):Int→List V3→List (List UInt8)
 | _,[]=>[]
 | p,v::r=>kU x.toNat (Z8 x p v).toNat::YU x (p+x) r
def fitE (x:Int):Int→List V3→Prop
 | _,[]=>True
 | p,v::r=>(0≤Z8 x p v∧Z8 x p v < 2 ^ (8*x.toNat))∧fitE x (p+x) r
theorem BZ {x:Int} (hx:isW x=true):(2:Int) ^ (8*x.toNat)≤18446744073709551616:=by
 rcases zN hx with rfl|rfl|rfl|rfl<;>decide
theorem kW {x:Int} (hx:isW x=true):1≤x∧x≤8:=by
 rcases zN hx with rfl|rfl|rfl|rfl<;>decide
theorem ZU {jB x u:Int} {s:St} (hx:isW x=true) (h1:u < 2 ^ (8*x.toNat)):j7 jB x u s=kQ jB (kU x.toNat u.toNat) s:=by
 unfold j7;rw[if_pos hx,if_pos (by unfold dW;exact decide_eq_true h1)]
theorem n9 {jB x:Int} {b:List UInt8} {v:V3} (hx:isW x=true) (h:0≤Z8 x b.length v∧Z8 x b.length v < 2 ^ (8*x.toNat)):qF jB x (b,0) v=kQ jB (kU x.toNat (Z8 x b.length v).toNat) (b,0):=by
 have hp:=BZ hx;unfold qF;unfold Z8 at h⊢;split
 ·rename_i hi;rw[if_pos hi] at h;exact ZU hx h.2
 ·rename_i hi;rw[if_neg hi] at h;have e:IntKind.u64.wrap ((b.length:Int) - v.2.2)=(b.length:Int) - v.2.2:=by rw[IntKind.wrap_u64];omega
  show j7 jB x (IntKind.u64.wrap ((b.length:Int) - v.2.2)) (b,0)=_;rw[e];exact ZU hx h.2
theorem Q6 {jB x:Int} (hx:isW x=true):∀(l:List V3) (b:List UInt8),fitE x b.length l→jY jB x l (b,0)=qG jB (YU x b.length l) (b,0)
 | [],b,_=>rfl
 | v::r,b,h=>by
  have hp:=kW hx;show jY jB x r (qF jB x (b,0) v)=qG jB (YU x ((b.length:Int)+x) r) (kQ jB (kU x.toNat (Z8 x b.length v).toNat) (b,0));rw[n9 hx h.1];by_cases hf:(b.length:Int)+(kU x.toNat (Z8 x b.length v).toNat).length≤jB
  ·rw[JK _ _ _ hf];have e:(b.length:Int)+x=((b++kU x.toNat (Z8 x b.length v).toNat).length:Int):=by rw[List.length_append,kD];omega
   have h2:=h.2;rw[e] at h2⊢;exact Q6 hx r _ h2
  ·rw[aS hf,Z6 (s:=(b,5)) (show (5:Int)≠0 by decide),KI (s:=(b,5)) (show (5:Int)≠0 by decide)]
theorem V6 {jB x:Int}:∀(l:List V3) (s:St),zR jB x l s=qG jB (l.map fun v=>[JW x v]) s
 | [],s=>rfl
 | v::r,s=>by
  show zR jB x r (rC jB x s v)=qG jB (r.map fun v=>[JW x v]) (kQ jB [JW x v] s);have:rC jB x s v=kQ jB [JW x v] s:=by unfold rC;rw[show jR [⟨#[JW x v]⟩]=[JW x v] by simp[jR]]
  rw[this];exact V6 r _
theorem bX {x:Int} (hx:isW x=true) (b:List UInt8):(b.length:Int)+j5 b x=((b.length:Int)+x - 1) / x*x:=by
 unfold j5;rcases zN hx with rfl|rfl|rfl|rfl<;>omega
theorem ZV {x:Int} (hx:isW x=true):∀(l:List V3) (p:Int),((YU x p l).flatten.length:Int)=x*l.length
 | [],p=>by simp[YU]
 | v::r,p=>by
  have h:=ZV hx r (p+x);have hp:=kW hx;simp only[YU,List.flatten_cons,List.length_append,kD,List.length_cons];have e:x*((r.length+1:Nat):Int)=x*r.length+x:=by rw[Int.natCast_add,Int.mul_add];simp
  rw[e];omega
theorem fM (x:Int) (l:List V3):(l.map fun v=>[JW x v]).flatten.length=l.length:=by
 induction l with
 | nil=>rfl
 | cons v r ih=>simp only[List.map_cons,List.flatten_cons,List.length_append,List.length_cons,List.length_nil,ih];omega
theorem AJ (n x:Int):0≤zW n x∧zW n x < 2 ^ (8*x.toNat):=by
 unfold zW;have h:(0:Int) < 2 ^ (8*x.toNat):=Int.pow_pos zd;exact⟨Int.emod_nonneg _ zo,Int.emod_lt_of_pos _ h⟩
theorem dF {x at_:Int} (hx:isW x=true):∀(l:List V3) (i p:Int),p=(at_+x - 1) / x*x+i*x→0≤i→fitsL l at_ i x=true→fitE x p l
 | [],_,_,_,_,_=>trivial
 | v::r,i,p,hp,hi,h=>by
  have hw:=kW hx
  have h1:fitsV v at_ i x=true:=by
   have:(fitsV v at_ i x && fitsL r at_ (i+1) x)=true:=h;simp at this;exact this.1
  have h2:fitsL r at_ (i+1) x=true:=by
   have:(fitsV v at_ i x && fitsL r at_ (i+1) x)=true:=h;simp at this;exact this.2
  have hs:p+x=(at_+x - 1) / x*x+(i+1)*x:=by rw[hp,Int.add_mul];omega
  refine⟨?_,dF hx r (i+1) (p+x) hs zo h2⟩;unfold Z8;split
  ·exact AJ _ _
  ·rename_i hn;unfold fitsV fitsF at h1;rw[if_neg hn] at h1;simp only[Bool.and_eq_true,decide_eq_true_eq,belowW] at h1;have hge:at_≤(at_+x - 1) / x*x:=by rcases zN hx with rfl | rfl | rfl | rfl<;>omega
   have hix:0≤i*x:=Int.mul_nonneg hi zo;rw[hp];exact⟨by omega,h1.2⟩
def JE (x:Int) (len jW:Bool) (b:List UInt8) (l:List V3):List (List UInt8):=
 j9 (j5 b x)::(if len then [kU x.toNat l.length] else [])++YU x ((b.length:Int)+j5 b x+(if len then x else 0)) l++(if jW then l.map fun v=>[JW x v] else [])
def oA (x:Int) (len jW:Bool) (b:List UInt8) (l:List V3):Int:=b.length+j5 b x+(if len then x else 0)+x*l.length+(if jW then (l.length:Int) else 0)
theorem Y7 {x:Int} (hx:isW x=true) (len jW:Bool) (b:List UInt8) (l:List V3):(b.length:Int)+(JE x len jW b l).flatten.length=oA x len jW b l:=by
 have h1:=ZV hx l ((b.length:Int)+j5 b x+(if len then x else 0));have h2:=fM x l;have hp:=kW hx;unfold JE oA;cases len<;>cases jW<;>simp only[List.flatten_append,List.flatten_cons,List.length_append,List.flatten_nil,List.length_nil,jS,kD,if_true,Bool.false_eq_true,if_false,List.cons_append,List.nil_append] at h1⊢<;>omega
theorem Y8 {p:Int→Bool} (h:Ft.leastOf p≠0):p (Ft.leastOf p)=true:=by
 revert h
 unfold Ft.leastOf
 repeat' split
 all_goals simp_all
theorem bY {p:Int→Bool} (h:p 8=true):Ft.leastOf p≠0:=by
 unfold Ft.leastOf
 repeat' split
 all_goals simp_all
def V7 (n:Int) (v:V3):Prop:=kE v=0∧okV v∧(inlineB v.1=true→v.2.1≤8)∧(inlineB v.1=false→v.2.2≤n)
theorem eI {n:Int}:∀(l:List V3) (i:Int),(∀v∈l,V7 n v)→0≤n→0≤i→n+8+(i+l.length)*8 < 18446744073709551616→fitsL l n i 8=true
 | [],_,_,_,_,_=>rfl
 | v::r,i,h,hn,hi,hb=>by
  have hv:=h v zp2;obtain⟨_,ho,h1,h2⟩:=hv;have hc:((v::r).length:Int)=r.length+1:=by simp
  rw[hc] at hb;have e:fitsL (v::r) n i 8=(fitsV v n i 8 && fitsL r n (i+1) 8):=rfl;rw[e,eI r (i+1) (fun u hu=>h u (by simp[hu])) hn zo zo,Bool.and_true];unfold fitsV fitsF
  cases hi2:inlineB v.1 with
  | true=>simp;exact h1 hi2
  | false=>
   have:=h2 hi2;have h0:=ho.1;simp only[Bool.false_eq_true,if_false,Bool.and_eq_true,decide_eq_true_eq,belowW];refine⟨this,?_⟩;show (n+8 - 1) / 8*8+i*8 - v.2.2 < 2 ^ (8*(8:Int).toNat);have:(2:Int) ^ (8*(8:Int).toNat)=18446744073709551616:=by decide
   omega
theorem eJ {n ahead:Int} {l:List V3} (ha:ahead=0∨ahead=1) (hn:0≤n) (hn2:n≤1048576) (hl:l.length≤1048576) (h:∀v∈l,V7 n v) :
 allF l (0,0,0) n ahead=Ft.leastOf (fun v=>allAt l (0,0,0) n ahead v)∧allF l (0,0,0) n ahead≠0∧isW (allF l (0,0,0) n ahead)=true∧allAt l (0,0,0) n ahead (allF l (0,0,0) n ahead)=true:=by
 have hA:isA ahead:=by rcases ha with rfl | rfl<;>simp[isA]
 have e:allF l (0,0,0) n ahead=Ft.leastOf (fun v=>allAt l (0,0,0) n ahead v):=by
  unfold allF;rw[if_pos ⟨⟨hn,by omega⟩,hA,hl⟩]
 have h8:allAt l (0,0,0) n ahead 8=true:=by
  unfold allAt;rw[eI l ahead h hn zo zo,Bool.and_true];unfold headF;have:(ahead == 3)=false:=by rcases ha with rfl | rfl<;>rfl
  rw[this];have hb:belowW l.length 8=true:=by unfold belowW;rw[decide_eq_true_eq];have:(2:Int) ^ (8*(8:Int).toNat)=18446744073709551616:=zd;omega
  rw[hb];simp
 have h0:allF l (0,0,0) n ahead≠0:=by rw[e];exact bY h8
 refine⟨e,h0,QM h0,?_⟩;have:=Y8 (p:=fun v=>allAt l (0,0,0) n ahead v) (by rw[← e];exact h0);rw[← e] at this;exact this
theorem AK {jB:Int} {T:V3→Int} {len jW:Bool} {kind:Int} {b:List UInt8} {l:List V3} (hT:∀v∈l,T v=0) (hb:b.length≤1048576) (hl:l.length≤1048576) (h:∀v∈l,V7 b.length v) :
 yJ jB T len jW kind 0 l (b,0)=(fun x=>(fun sf:St=>if sf.2≠0 then (((0,0,0),sf.2),sf) else (((kind,x,((qG jB (j9 (j5 b x)::(if len then [kU x.toNat l.length] else [])) (b,0)).1.length:Int)),0),sf)) (qG jB (JE x len jW b l) (b,0))) (allF l (0,0,0) b.length (if len then 1 else 0)):=by
 have hT0:yB T 0 l=0:=by
  clear hl h
  induction l with
  | nil=>rfl
  | cons v r ih=>
   show yB T (if (0:Int)=0 then T v else 0) r=0;rw[if_pos rfl,hT v zp2];exact ih fun u hu=>hT u (by simp[hu])
 obtain⟨e,x0,hx,qK⟩:=eJ (n:=b.length) (ahead:=if len then 1 else 0) (by cases len<;>simp) zo zo hl h;unfold yJ;rw[if_neg (by simpa using hT0)];simp only[if_neg x0];generalize allF l (0,0,0) b.length (if len then 1 else 0)=x at *;have hw:=kW hx
 have hfit:fitsL l b.length (if len then 1 else 0) x=true:=by
  have h:=qK;unfold allAt at h;simp only[Bool.and_eq_true] at h;exact h.2
 have kI:len=true→(l.length:Int) < 2 ^ (8*x.toNat):=by
  intro hl1;subst hl1;have h:=qK;unfold allAt headF at h;simp only[Bool.and_eq_true,belowW] at h;have:=h.1.1;simpa using this
 have hp:=bX hx b
 have e1:jJ jB x (b,0)=qG jB [j9 (j5 b x)] (b,0):=by
  unfold jJ;rw[if_pos hx];rfl
 have e2:(if len then j7 jB x l.length (jJ jB x (b,0)) else jJ jB x (b,0))=qG jB (j9 (j5 b x)::(if len then [kU x.toNat l.length] else [])) (b,0):=by
  rw[e1]
  cases len with
  | false=>rfl
  | true=>
   rw[if_pos rfl,ZU hx (kI rfl)];rfl
 have e2':(if len=true then j7 jB x (↑l.length) (jJ jB x (b,0)) else jJ jB x (b,0))=qG jB (j9 (j5 b x)::(if len then [kU x.toNat l.length] else [])) (b,0):=e2;rw[e2']
 have e3:(if jW=true then zR jB x l (jY jB x l (qG jB (j9 (j5 b x)::(if len then [kU x.toNat l.length] else [])) (b,0))) else jY jB x l (qG jB (j9 (j5 b x)::(if len then [kU x.toNat l.length] else [])) (b,0)))=qG jB (JE x len jW b l) (b,0):=by
  have e4:jY jB x l (qG jB (j9 (j5 b x)::(if len then [kU x.toNat l.length] else [])) (b,0))=qG jB (YU x ((b.length:Int)+j5 b x+(if len then x else 0)) l) (qG jB (j9 (j5 b x)::(if len then [kU x.toNat l.length] else [])) (b,0)):=by
   by_cases hf:(b.length:Int)+(j9 (j5 b x)::(if len then [kU x.toNat l.length] else [])).flatten.length≤jB
   ·rw[YC _ _ hf]
    have hl2:((b++(j9 (j5 b x)::(if len then [kU x.toNat l.length] else [])).flatten).length:Int)=(b.length:Int)+j5 b x+(if len then x else 0):=by
     cases len<;>simp[jS,kD]<;>omega
    rw[Q6 hx l _ (by
     rw[hl2];refine dF hx l (if len then 1 else 0) _ ?_ (by cases len<;>simp) hfit;rw[hp]
     cases len<;>simp),hl2]
   ·by_cases hb2:(b.length:Int)≤jB
    ·have h5:(qG jB (j9 (j5 b x)::(if len then [kU x.toNat l.length] else [])) (b,0)).2≠0:=(by rw[(lF _ b hb2 hf).1];decide);rw[Z6 h5,KI h5]
    ·have h5:qG jB (j9 (j5 b x)::(if len then [kU x.toNat l.length] else [])) (b,0)=(b,5):=by
      show qG jB _ (kQ jB (j9 (j5 b x)) (b,0))=_;rw[aS (by rw[jS];omega),KI (s:=(b,5)) (show (5:Int)≠0 by decide)]
     rw[h5,Z6 (s:=(b,5)) (show (5:Int)≠0 by decide),KI (s:=(b,5)) (show (5:Int)≠0 by decide)]
  rw[e4];unfold JE;rw[Z7,Z7]
  cases jW with
  | false=>rfl
  | true=>
   rw[if_pos rfl,if_pos rfl,V6]
 rw[e3]
theorem B0 {jB:Int} {T:V3→Int} {len jW:Bool} {kind:Int} {b:List UInt8} {l:List V3} {x:Int} (hT:∀v∈l,T v=0) (hb:b.length≤1048576) (hl:l.length≤1048576) (h:∀v∈l,V7 b.length v)
 (hx:allF l (0,0,0) b.length (if len then 1 else 0)=x) (hr:oA x len jW b l≤jB):yJ jB T len jW kind 0 l (b,0)=(((kind,x,(b.length:Int)+j5 b x+(if len then x else 0)),0),(b++(JE x len jW b l).flatten,0)):=by
 obtain⟨_,_,hw,_⟩:=eJ (n:=b.length) (ahead:=if len then 1 else 0) (by cases len<;>simp) zo zo hl h;rw[AK hT hb hl h];simp only[hx];rw[hx] at hw;have hwp:=kW hw;have hpl:=Y7 hw len jW b l;rw[YC (JE x len jW b l) b zo];have hmul:0≤x*(l.length:Int):=Int.mul_nonneg zo zo;rw[if_neg zp2,YC _ b (by unfold oA at hr;cases len<;>cases jW<;>simp[jS,kD] at hr⊢<;>omega)]
 have hl2:((b++(j9 (j5 b x)::(if len then [kU x.toNat l.length] else [])).flatten).length:Int)=(b.length:Int)+j5 b x+(if len then x else 0):=by
  cases len<;>simp[jS,kD]<;>omega
 rw[hl2]
end Go.Proofs.YtdjoffgkndncfaaGreat
namespace Go.Proofs.YtdjoffgkndncfaaGreat
open Go Go.ChangeShapes Go.WideShapes Go.ChangeAt Go.RowKit Go.Joins Go.Deep
section
variable {H:Type} {enc:TypeId × Value→H} {W:World} {base:Nat} {v:Value} {d:DataW H} {p:List MemPlace}
end
end Go.Proofs.YtdjoffgkndncfaaGreat
namespace Go.Proofs.YtdjoffgkndncfaaGreat
open Go Go.ChangeShapes Go.WideShapes Go.ChangeAt Go.RowKit Go.Joins
open Go.Proofs.YtdjoffgkndncfaaGreat.Ft (V3 vV okV ValsAt inlineB legalB packF codeF typedF allF allAt headF fitsL fitsV fitsF belowW isA)
theorem tX (n:Int):0≤IntKind.u64.wrap n∧IntKind.u64.wrap n≤18446744073709551615:=by
 rw[IntKind.wrap_u64];omega
theorem AL {a:Int} {l:List V3} (h:∀v∈l,V7 a v):∀v∈l,kE v=0:=fun v hv=>(h v hv).1
theorem tY {x:Int} (hx:isW x=true) (len jW:Bool) (b:List UInt8) (l:List V3):oA x len jW b l≤b.length+15+9*l.length:=by
 have hw:=kW hx;have hp:=(cM (l:=b) hx).1;have hm:x*(l.length:Int)≤8*l.length:=Int.mul_le_mul_of_nonneg_right hw.2 zo;unfold oA;cases len<;>cases jW<;>simp only[if_true,Bool.false_eq_true,if_false]<;>omega
end Go.Proofs.YtdjoffgkndncfaaGreat
namespace Go.Proofs.YtdjoffgkndncfaaGreat
open Go Go.ChangeShapes Go.WideShapes Go.ChangeAt Go.RowKit Go.Joins
open Go.Proofs.YtdjoffgkndncfaaGreat.Ft (V3 vV okV ValsAt inlineB legalB packF codeF typedF allF allAt headF fitsL fitsV fitsF belowW isA unpackF)
theorem DH (n u:Nat):kU (n+1) u=UInt8.ofNat (u % 256)::kU n (u / 256):=by
 unfold kU;rw[List.range_succ_eq_map,List.map_cons,List.map_map];simp only[Nat.pow_zero,Nat.div_one];congr 1;apply List.map_congr_left;intro i _;simp only[Function.comp,Nat.succ_eq_add_one];rw[Nat.pow_succ,Nat.mul_comm (256 ^ i) 256,← Nat.div_div_eq_div_mul]
theorem tZ:∀(n u:Nat),u < 256 ^ n→leF (kU n u)=u
 | 0,u,h=>by
  have:u=0:=by simpa using h
  subst this;simp[kU,leF]
 | n+1,u,h=>by
  rw[DH];show ((UInt8.ofNat (u % 256)).toNat:Int)+256*leF (kU n (u / 256))=u;rw[tZ n (u / 256) (by rw[Nat.pow_succ] at h;omega),UInt8.toNat_ofNat'];omega
theorem pow_256 {x:Int} (hx:isW x=true):(256:Nat) ^ x.toNat=(2 ^ (8*x.toNat):Int):=by
 rcases zN hx with rfl|rfl|rfl|rfl<;>decide
theorem KY {X A C:List UInt8} {x u at_:Int} (hx:isW x=true) (hX:X=A++kU x.toNat u.toNat++C) (hA:(A.length:Int)=at_) (h0:0≤u) (h1:u < 2 ^ (8*x.toNat)):k9 X at_ x=(u,0):=by
 have hp:=kW hx;subst hX;unfold k9;rw[if_pos hx,if_neg (by rw[List.length_append,List.length_append,kD];omega)]
 have e:(((A++kU x.toNat u.toNat++C).drop at_.toNat).take x.toNat)=kU x.toNat u.toNat:=by
  rw[← hA,show ((A.length:Int)).toNat=A.length by omega,List.append_assoc,List.drop_left,List.take_left' (kD _ _)]
 rw[e,tZ _ _ (by have:=pow_256 hx;omega)];rw[show (u.toNat:Int)=u by omega]
theorem rE {x:Int} (hx:isW x=true):∀(l:List V3) (p:Int) (k:Nat) (v:V3),l[k]? = some v→∃A C,(YU x p l).flatten=A++kU x.toNat (Z8 x (p+k*x) v).toNat++C∧(A.length:Int)=k*x
 | [],_,_,_,h=>by simp at h
 | u::r,p,0,v,h=>by
  simp at h;subst h;exact⟨[],(YU x (p+x) r).flatten,by simp[YU],by simp⟩
 | u::r,p,k+1,v,h=>by
  have hp:=kW hx;obtain⟨A,C,h1,h2⟩:=rE hx r (p+x) k v r8;refine⟨kU x.toNat (Z8 x p u).toNat++A,C,?_,?_⟩
  ·have e:p+x+(k:Int)*x=p+((k+1:Nat):Int)*x:=by rw[Int.natCast_add,Int.add_mul];simp;omega
   rw[e] at h1;simp only[YU,List.flatten_cons,h1,List.append_assoc]
  ·rw[List.length_append,kD,Int.natCast_add,h2,Int.natCast_add,Int.add_mul];simp;omega
theorem dG (x:Int) (l:List V3):(l.map fun v=>[JW x v]).flatten=l.map (JW x):=by
 induction l with
 | nil=>rfl
 | cons v r ih=>simp only[List.map_cons,List.flatten_cons,ih];rfl
theorem eK:∀(l:List V3) (at_ i x:Int) (k:Nat) (v:V3),fitsL l at_ i x=true→l[k]? = some v→fitsV v at_ (i+k) x=true
 | [],_,_,_,_,_,_,h=>by simp at h
 | u::r,at_,i,x,0,v,hf,h=>by
  have:(fitsV u at_ i x && fitsL r at_ (i+1) x)=true:=hf;simp at this h;subst h;simpa using this.1
 | u::r,at_,i,x,k+1,v,hf,h=>by
  have:(fitsV u at_ i x && fitsL r at_ (i+1) x)=true:=hf;simp only[Bool.and_eq_true] at this;have h2:=eK r at_ (i+1) x k v this.2 r8;rw[show i+((k+1:Nat):Int)=i+1+k by omega];exact h2
theorem lG {x:Int}:∀(l:List V3) (p:Int) (k:Nat) (v:V3),fitE x p l→l[k]? = some v→0≤Z8 x (p+k*x) v∧Z8 x (p+k*x) v < 2 ^ (8*x.toNat)
 | [],_,_,_,_,h=>by simp at h
 | u::r,p,0,v,hf,h=>by
  simp at h;subst h;simpa using hf.1
 | u::r,p,k+1,v,hf,h=>by
  have h2:=lG r (p+x) k v hf.2 r8;have e:p+x+(k:Int)*x=p+((k+1:Nat):Int)*x:=by rw[Int.natCast_add,Int.add_mul];simp;omega
  rw[e] at h2;exact h2
theorem bZ {x:Int} {v:V3} (hx:isW x=true) (hl:kE v=0):unpackF (JW x v).toNat=(v.1,if inlineB v.1 then x else v.2.1,0):=by
 obtain⟨t,wd,n⟩:=v;unfold kE at hl;by_cases hlb:legalB t=true
 ·have hww:isW (if inlineB t then x else wd)=true:=by
   split
   ·exact hx
   ·rename_i hn;rw[if_pos hlb,if_neg hn] at hl;by_cases h:isW wd=true
    ·exact h
    ·rw[if_neg h] at hl;cases hl
  unfold JW;generalize (if inlineB t then x else wd)=y at *
  have ht:0≤t∧t < 37:=by
   by_cases h0:t < 0
   ·unfold legalB at hlb;simp[Ft.kindOf,h0] at hlb
   ·by_cases h1:t < 37
    ·exact⟨by omega,h1⟩
    ·exfalso;unfold legalB Ft.kindOf at hlb;rw[if_neg h0] at hlb
     have:Ft.kindRow t.toNat=(0,0,0):=by
      have hm:37≤t.toNat:=(by omega);generalize t.toNat=m at hm;unfold Ft.kindRow
      split<;>first | rfl | omega
     rw[this] at hlb;simp at hlb
  have hc:∃c:Nat,c < 4∧codeF y=some (c:Int)∧y=2 ^ c:=by
   rcases zN hww with rfl|rfl|rfl|rfl
   ·exact⟨0,by omega,rfl,rfl⟩
   ·exact⟨1,by omega,rfl,rfl⟩
   ·exact⟨2,by omega,rfl,rfl⟩
   ·exact⟨3,by omega,rfl,rfl⟩
  obtain⟨c,hc4,hcode,hy⟩:=hc
  have e:(packF t y).1=4*t+c:=by
   unfold packF;rw[if_pos hlb,hcode]
  rw[e,UInt8.toNat_ofNat',show (4*t+(c:Int)).toNat % 2 ^ 8=4*t.toNat+c by omega];unfold unpackF;rw[show (4*t.toNat+c) / 4=t.toNat by omega,show (4*t.toNat+c) % 4=c by omega,show ((t.toNat:Nat):Int)=t by omega,if_pos hlb,hy]
 ·rw[if_neg hlb] at hl;cases hl
theorem lH {X:List UInt8} {at_ x u:Int} (h:k9 X at_ x=(u,0)):KP X at_ x=(sgnF u x,0):=by
 unfold KP;rw[h];rfl
end Go.Proofs.YtdjoffgkndncfaaGreat
namespace Go.Proofs.YtdjoffgkndncfaaGreat
open Go Go.ChangeShapes Go.WideShapes Go.ChangeAt Go.RowKit Go.Joins
open Go.Proofs.YtdjoffgkndncfaaGreat.Ft (V3 vV okV ValsAt inlineB legalB packF codeF typedF allF)
section
variable {w0 w w':World} {p q:Nat} {o o':Option Nat} {jB most':Int} {s t s' t':St}
end
end Go.Proofs.YtdjoffgkndncfaaGreat
