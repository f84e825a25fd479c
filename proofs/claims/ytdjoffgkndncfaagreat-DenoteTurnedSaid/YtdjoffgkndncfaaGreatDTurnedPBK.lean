/-
  Texts of the proof.
-/
import Derived.Test.YtdjoffgkndncfaaGreatDTurnedPBJ
import Derived.Test.YtdjoffgkndncfaaGreatDTurnedPBH
set_option linter.unusedVariables false
set_option linter.unusedSimpArgs false
namespace Go.Proofs.YtdjoffgkndncfaaGreat
open Go Go.ChangeShapes Go.WideShapes Go.ChangeAt Go.RowKit Go.Joins
open Go.Proofs.YtdjoffgkndncfaaGreat.Ft (V3 vV okV ValsAt inlineB legalB packF codeF typedF allF)
def QW (v:V3):List Value:=[.int .i64 v.1,.int .i64 v.2.1,.int .u64 v.2.2]
def k8 (l:List V3):List Value:=l.flatMap QW
theorem K4 (l:List V3):(k8 l).length=l.length*3:=by
 induction l with
 | nil=>rfl
 | cons v r ih=>
  have:k8 (v::r)=QW v++k8 r:=rfl;rw[this,List.length_append,ih,List.length_cons];show 3+_=_;omega
theorem QE (l m:List V3):k8 (l++m)=k8 l++k8 m:=by simp[k8]
theorem bL (l:List V3) (i:Nat) (v:V3) (h:l[i]? = some v):(k8 l)[i*3]? = some (.int .i64 v.1)∧(k8 l)[i*3+1]? = some (.int .i64 v.2.1)∧(k8 l)[i*3+2]? = some (.int .u64 v.2.2):=by
 induction l generalizing i with
 | nil=>simp at h
 | cons u r ih=>
  have e:k8 (u::r)=.int .i64 u.1::.int .i64 u.2.1::.int .u64 u.2.2::k8 r:=rfl;rw[e]
  cases i with
  | zero=>simp at h;subst h;simp
  | succ i=>
   have h2:=ih i iG;rw[show (i+1)*3=i*3+1+1+1 by omega,show i*3+1+1+1+1=(i*3+1)+1+1+1 by omega,show i*3+1+1+1+2=(i*3+2)+1+1+1 by omega];simpa only [List.getElem?_cons_succ] using h2
def jR (w:World) (B:Nat) (v:Value) (l:List V3):Prop:=w.ownsRow B 135 3 v l.length (k8 l)
theorem jR.vals {w:World} {B:Nat} {v:Value} {l:List V3} (h:jR w B v l):ValsAt w v l:=by
 have h0:=h;obtain⟨_,h2⟩:=h;rcases h2 with ⟨rfl,hn⟩|⟨g,cap,cur,rfl,_,_,hn,_⟩
 ·have:l=[]:=List.length_eq_zero_iff.1 hn;subst this;exact⟨none,0,rfl,fun i x hx=>by simp at hx⟩
 ·refine⟨some ⟨g,0,none⟩,cap,rfl,fun i x hx=>⟨g,0,rfl,?_⟩⟩;have hi:=(List.getElem?_eq_some_iff.1 hx).1;obtain⟨e0,e1,e2⟩:=bL l i x hx;have hc:=World.ownsRow.cells h0 rfl
  have a:∀j,(⟨g,0,none⟩:Addr).add j=⟨g,0+j,none⟩:=by
   intro j;unfold Addr.add;split
   ·rename_i h;subst h;rfl
   ·rfl
  have c0:=hc _ _ e0;have c1:=hc _ _ e1;have c2:=hc _ _ e2;rw[a] at c0 c1 c2;exact⟨c0,c1,c2⟩
theorem Tryz.infoVal:(Tryz.prog.info? 135).map (fun i=>(i.zero,i.size,i.bytes))=some (some (.agg #[.int .i64 0,.int .i64 0,.int .u64 0]),3,24):=by kernel_rfl
theorem lF:∃i0,Tryz.prog.info? 135=some i0∧i0.zero=some (.agg #[.int .i64 0,.int .i64 0,.int .u64 0])∧i0.size=3∧i0.bytes=24:=by
 have h:=Tryz.infoVal
 cases hq:Tryz.prog.info? 135 with
 | none=>simp[hq] at h
 | some i=>simp[hq] at h;exact⟨i,rfl,h.1,h.2.1,h.2.2⟩
theorem fK {w:World} {ad:Addr} {cap:Nat} {l:List V3} (h:ValsAt w (.slice (some ad) l.length cap) l):∀j u,(k8 l)[j]? = some u→w.cell? (ad.add j)=some u:=by
 obtain⟨a0,c0,e,hc⟩:=h;cases e;intro j u hj;have hjl:j < l.length*3:=by rw[← K4];exact (List.getElem?_eq_some_iff.1 hj).1
 have hd:j / 3 < l.length:=by omega
 have hq:j=j / 3*3∨j=j / 3*3+1∨j=j / 3*3+2:=by omega
 obtain⟨x,hx⟩:∃x,l[j / 3]? = some x:=⟨_,List.getElem?_eq_getElem hd⟩;obtain⟨b,off,e,d0,d1,d2⟩:=hc (j / 3) x hx;cases e;obtain⟨e0,e1,e2⟩:=bL l (j / 3) x hx;generalize j / 3=q at *
 have:(⟨b,off,none⟩:Addr).add j=⟨b,off+j,none⟩:=by
  unfold Addr.add;split
  ·rename_i h;subst h;rfl
  ·rfl
 rw[this];rcases hq with h|h|h
 ·rw[h] at hj;rw[e0] at hj;cases hj;rw[h];exact d0
 ·rw[h] at hj;rw[e1] at hj;cases hj;rw[h];exact d1
 ·rw[h] at hj;rw[e2] at hj;cases hj;rw[h];exact d2
theorem bM (l:List V3):∀u∈k8 l,u.oneCell'=true:=by
 intro u hu;simp only[k8,List.mem_flatMap,QW,List.mem_cons,List.not_mem_nil,or_false] at hu;obtain⟨x,_,rfl|rfl|rfl⟩:=hu<;>rfl
theorem yX {ops:Array Oper} {rest:List Oper} {o:Oper} {a:Act} {w:World} {Q:Exit→Act→World→Prop} (hgd:o.guard=none) (s x:Operand)
 (ho:o.op=.call {callee:=.builtin .append,args:=#[s,x],argTypes:=#[109,109]}) (B:Nat) (v:Value) (l:List V3) (hs:a.eval s=v) (j4:jR w B v l)
 (sv:Value) (l2:List V3) (hx:a.eval x=sv) (hsv:ValsAt w sv l2) (zG:∀c,sv=.slice none 0 c→c=0) (kN:l.length+l2.length≤1048576) (hB:B≤w.heap.size)
 (h:∀v' w',jR w' B v' (l++l2)→w.grownBy w' v.ownBlock→yQ w v.ownBlock v'.ownBlock→wpList Tryz.prog ops Q rest (a.put o.dst v') w'):wpList Tryz.prog ops Q (o::rest) a w:=by
 obtain⟨i0,hi,hz0,hz1,hz2⟩:=lF;have hsv0:=hsv;obtain⟨sa,cap,rfl,hc⟩:=hsv
 cases sa with
 | none=>
  have h0:l2=[]:=by
   cases l2 with
   | nil=>rfl
   | cons y r=>obtain⟨b,off,e,_⟩:=hc 0 y rfl;cases e
  subst h0;have:=zG cap rfl;subst this;refine wpList_append_own_none hgd s x 109 ho B 135 i0 3 Tryz.underlying109 hi v l.length _ hs j4 hx ?_;exact h v w zp23 ⟨rfl,rfl,rfl,Nat.le_refl _,fun _ _ _=>rfl⟩ (yQ.refl _ _)
 | some ad=>
  obtain⟨v',w',hr,h2,h3,h4⟩:=vB (P:=Tryz.prog) w B 109 o.type 135 i0 (.agg #[.int .i64 0,.int .i64 0,.int .u64 0]) 3 24 Tryz.underlying109 hi hz0 hz1 hz2 rfl zd v l.length _ j4 ad l2.length cap (k8 l2) (K4 l2) (fK hsv0) (bM l2) zp9 zo hB;refine wpList_plain hgd fun _ hK=>Lib.wp_append_run w s x 109 109 ho v _ hs hx v' w' hr (hK _ _ (h v' w' ?_ h3 h4));unfold jR;rw[List.length_append,QE];exact h2
theorem vL {w w':World} {B:Nat} {v:Value} {l:List V3} (h:jR w B v l) (hg:jD w w'):jR w' B v l:=Moved.owns (Moved.of_grew (S:=fun _=>False) hg) h (fun _ _ h=>h)
theorem ZS (w:World) (x:V3):ValsAt (w.alloc (.cells #[.int .i64 x.1,.int .i64 x.2.1,.int .u64 x.2.2] 135)) (.slice (some ⟨w.heap.size,0,none⟩) 1 1) [x]:=by
 have h:=heap_alloc_new w (.cells #[.int .i64 x.1,.int .i64 x.2.1,.int .u64 x.2.2] 135);refine⟨_,1,rfl,fun i y hy=>?_⟩;have hi:i=0:=by have:=(List.getElem?_eq_some_iff.1 hy).1;simp at this;omega
 subst hi;simp at hy;subst hy;exact⟨_,_,rfl,jN h 0 _ rfl,jN h 1 _ rfl,jN h 2 _ rfl⟩
theorem kO {w:World} {B:Nat} {v:Value} {l:List V3} (h:jR w B v l):∃a c,v=.slice a l.length c∧(a=none→c=0):=by
 rcases h.2 with ⟨rfl,hn⟩|⟨g,cap,cur,rfl,_,_,hn,_⟩
 ·exact⟨none,0,by rw[hn],fun _=>rfl⟩
 ·exact⟨_,cap,rfl,fun h=>by cases h⟩
theorem QX {w wr w':World} {v:Value} {l:List V3} (h:jR wr w.heap.size v l) (hg:jD w wr) (hgr:wr.grownBy w' v.ownBlock):jD w w':=by
 have hgr2:Moved (fun k=>some k=v.ownBlock) wr w':=Moved.of_grown hgr;refine⟨hgr2.os.trans hg.os,hgr2.tape.trans hg.tape,hgr2.output.trans hg.output,Nat.le_trans hg.size hgr2.size,fun k hk=>?_⟩;refine (hgr2.block k (Nat.lt_of_lt_of_le hk hg.size) fun e=>?_).trans (hg.block k hk);rcases h.2 with ⟨rfl,hn⟩|⟨g,cap,cur,rfl,hb,_,_⟩
 ·cases e
 ·have:k=g:=by injection e
  omega
section
variable {lv:Value} {l:List V3} {jB:Int} {s:St}
end
abbrev bB:ByteArray:=⟨#[97,98,99]⟩
end Go.Proofs.YtdjoffgkndncfaaGreat
namespace Go.Proofs.YtdjoffgkndncfaaGreat
open Go Go.ChangeShapes Go.WideShapes Go.ChangeAt Go.RowKit Go.Joins
open Go.Proofs.YtdjoffgkndncfaaGreat.Ft (V3 vV okV ValsAt inlineB legalB packF codeF typedF allF allAt headF fitsL fitsV fitsF belowW isA)
section
variable {jB x u:Int} {y:List UInt8} {s:St} {v:V3}
theorem ZT (h:s.2≠0):kF jB y s=s:=by
 obtain⟨b,e⟩:=s;show (QL b y jB e,aO b y jB e)=(b,e);unfold QL aO;rw[if_neg (fun k=>h k.1),if_neg (fun k=>h k.1)]
theorem dF (z:Int) (h:s.2≠0):VX z s=s:=by
 obtain⟨b,e⟩:=s;show (b,zD e z)=(b,e);unfold zD;rw[if_neg h]
theorem fL (h:s.2≠0):jZ jB x u s=s:=by
 unfold jZ;split
 ·split
  ·exact ZT h
  ·exact dF _ h
 ·exact dF _ h
theorem pN (h:s.2≠0):qB jB x s v=s:=by
 unfold qB;split<;>exact fL h
theorem ZB (h:s.2≠0):∀l:List V3,jU jB x l s=s
 | []=>rfl
 | v::r=>by
  show jU jB x r (qB jB x s v)=s;rw[pN h];exact ZB h r
end
theorem VL {jB:Int} {l y:List UInt8} (hf:¬(l.length:Int)+y.length≤jB):kF jB y (l,0)=(l,5):=by
 show (QL l y jB 0,aO l y jB 0)=_;unfold QL aO;rw[if_neg (fun k=>hf (by have:=k.2;omega)),if_pos ⟨rfl,fun k=>hf zo⟩]
def y7 (jB:Int):List (List UInt8)→St→St
 | [],s=>s
 | y::r,s=>y7 jB r (kF jB y s)
theorem Y2 (jB:Int):∀(ys zs:List (List UInt8)) (s:St),y7 jB (ys++zs) s=y7 jB zs (y7 jB ys s)
 | [],_,_=>rfl
 | y::r,zs,s=>Y2 jB r zs (kF jB y s)
theorem JQ {jB:Int} {s:St} (h:s.2≠0):∀ys,y7 jB ys s=s
 | []=>rfl
 | y::r=>by
  show y7 jB r (kF jB y s)=s;rw[ZT h];exact JQ h r
theorem YL {jB:Int}:∀(ys:List (List UInt8)) (b:List UInt8),(b.length:Int)+ys.flatten.length≤jB→y7 jB ys (b,0)=(b++ys.flatten,0)
 | [],b,_=>by simp[y7]
 | y::r,b,h=>by
  have h2:(b.length:Int)+y.length+r.flatten.length≤jB:=by simp at h⊢;omega
  show y7 jB r (kF jB y (b,0))=_;rw[bF jB b y zo,YL r (b++y) (by simp at h2⊢;omega)];simp
theorem fM {jB:Int}:∀(ys:List (List UInt8)) (b:List UInt8),(b.length:Int)≤jB→¬(b.length:Int)+ys.flatten.length≤jB→(y7 jB ys (b,0)).2=5∧((y7 jB ys (b,0)).1.length:Int)≤jB
 | [],b,hb,h=>absurd (by simpa using hb) h
 | y::r,b,hb,h=>by
  show (y7 jB r (kF jB y (b,0))).2=5∧((y7 jB r (kF jB y (b,0))).1.length:Int)≤jB;by_cases hy:(b.length:Int)+y.length≤jB
  ·rw[bF jB b y hy];exact fM r (b++y) (by simpa using hy) (by simp at h⊢;omega)
  ·rw[VL hy,JQ (s:=(b,5)) (show (5:Int)≠0 by decide)];exact⟨rfl,hb⟩
def QH (x p:Int) (v:V3):Int:=if inlineB v.1 then zP v.2.2 x else p - v.2.2
def aG (x:Int):Int→List V3→List (List UInt8)
 | _,[]=>[]
 | p,v::r=>yD x.toNat (QH x p v).toNat::aG x (p+x) r
def fitE (x:Int):Int→List V3→Prop
 | _,[]=>True
 | p,v::r=>(0≤QH x p v∧QH x p v < 2 ^ (8*x.toNat))∧fitE x (p+x) r
theorem wH {x:Int} (hx:isW x=true):(2:Int) ^ (8*x.toNat)≤18446744073709551616:=by
 rcases zE hx with rfl|rfl|rfl|rfl<;>decide
theorem zY {x:Int} (hx:isW x=true):1≤x∧x≤8:=by
 rcases zE hx with rfl|rfl|rfl|rfl<;>decide
theorem bN {jB x u:Int} {s:St} (hx:isW x=true) (h1:u < 2 ^ (8*x.toNat)):jZ jB x u s=kF jB (yD x.toNat u.toNat) s:=by
 unfold jZ;rw[if_pos hx,if_pos (by unfold cC;exact decide_eq_true h1)]
theorem xW {jB x:Int} {b:List UInt8} {v:V3} (hx:isW x=true) (h:0≤QH x b.length v∧QH x b.length v < 2 ^ (8*x.toNat)):qB jB x (b,0) v=kF jB (yD x.toNat (QH x b.length v).toNat) (b,0):=by
 have hp:=wH hx;unfold qB;unfold QH at h⊢;split
 ·rename_i hi;rw[if_pos hi] at h;exact bN hx h.2
 ·rename_i hi;rw[if_neg hi] at h;have e:IntKind.u64.wrap ((b.length:Int) - v.2.2)=(b.length:Int) - v.2.2:=by rw[IntKind.wrap_u64];omega
  show jZ jB x (IntKind.u64.wrap ((b.length:Int) - v.2.2)) (b,0)=_;rw[e];exact bN hx h.2
theorem bO {jB x:Int} (hx:isW x=true):∀(l:List V3) (b:List UInt8),fitE x b.length l→jU jB x l (b,0)=y7 jB (aG x b.length l) (b,0)
 | [],b,_=>rfl
 | v::r,b,h=>by
  have hp:=zY hx;show jU jB x r (qB jB x (b,0) v)=y7 jB (aG x ((b.length:Int)+x) r) (kF jB (yD x.toNat (QH x b.length v).toNat) (b,0));rw[xW hx h.1];by_cases hf:(b.length:Int)+(yD x.toNat (QH x b.length v).toNat).length≤jB
  ·rw[bF _ _ _ hf];have e:(b.length:Int)+x=((b++yD x.toNat (QH x b.length v).toNat).length:Int):=by rw[List.length_append,zW];omega
   have h2:=h.2;rw[e] at h2⊢;exact bO hx r _ h2
  ·rw[VL hf,ZB (s:=(b,5)) (show (5:Int)≠0 by decide),JQ (s:=(b,5)) (show (5:Int)≠0 by decide)]
theorem dG {jB x:Int}:∀(l:List V3) (s:St),zL jB x l s=y7 jB (l.map fun v=>[KX x v]) s
 | [],s=>rfl
 | v::r,s=>by
  show zL jB x r (nB jB x s v)=y7 jB (r.map fun v=>[KX x v]) (kF jB [KX x v] s);have:nB jB x s v=kF jB [KX x v] s:=by unfold nB;rw[show jV [⟨#[KX x v]⟩]=[KX x v] by simp[jV]]
  rw[this];exact dG r _
theorem tS {x:Int} (hx:isW x=true) (b:List UInt8):(b.length:Int)+zF b x=((b.length:Int)+x - 1) / x*x:=by
 unfold zF;rcases zE hx with rfl|rfl|rfl|rfl<;>omega
theorem QY {x:Int} (hx:isW x=true):∀(l:List V3) (p:Int),((aG x p l).flatten.length:Int)=x*l.length
 | [],p=>by simp[aG]
 | v::r,p=>by
  have h:=QY hx r (p+x);have hp:=zY hx;simp only[aG,List.flatten_cons,List.length_append,zW,List.length_cons];have e:x*((r.length+1:Nat):Int)=x*r.length+x:=by rw[Int.natCast_add,Int.mul_add];simp
  rw[e];omega
theorem pO (x:Int) (l:List V3):(l.map fun v=>[KX x v]).flatten.length=l.length:=by
 induction l with
 | nil=>rfl
 | cons v r ih=>simp only[List.map_cons,List.flatten_cons,List.length_append,List.length_cons,List.length_nil,ih];omega
theorem CJ (n x:Int):0≤zP n x∧zP n x < 2 ^ (8*x.toNat):=by
 unfold zP;have h:(0:Int) < 2 ^ (8*x.toNat):=Int.pow_pos zd;exact⟨Int.emod_nonneg _ zo,Int.emod_lt_of_pos _ h⟩
theorem nD {x at_:Int} (hx:isW x=true):∀(l:List V3) (i p:Int),p=(at_+x - 1) / x*x+i*x→0≤i→fitsL l at_ i x=true→fitE x p l
 | [],_,_,_,_,_=>trivial
 | v::r,i,p,hp,hi,h=>by
  have hw:=zY hx
  have h1:fitsV v at_ i x=true:=by
   have:(fitsV v at_ i x && fitsL r at_ (i+1) x)=true:=h;simp at this;exact this.1
  have h2:fitsL r at_ (i+1) x=true:=by
   have:(fitsV v at_ i x && fitsL r at_ (i+1) x)=true:=h;simp at this;exact this.2
  have hs:p+x=(at_+x - 1) / x*x+(i+1)*x:=by rw[hp,Int.add_mul];omega
  refine⟨?_,nD hx r (i+1) (p+x) hs zo h2⟩;unfold QH;split
  ·exact CJ _ _
  ·rename_i hn;unfold fitsV fitsF at h1;rw[if_neg hn] at h1;simp only[Bool.and_eq_true,decide_eq_true_eq,belowW] at h1;have hge:at_≤(at_+x - 1) / x*x:=by rcases zE hx with rfl | rfl | rfl | rfl<;>omega
   have hix:0≤i*x:=Int.mul_nonneg hi zo;rw[hp];exact⟨by omega,h1.2⟩
def vJ (x:Int) (len kC:Bool) (b:List UInt8) (l:List V3):List (List UInt8):=
 kM (zF b x)::(if len then [yD x.toNat l.length] else [])++aG x ((b.length:Int)+zF b x+(if len then x else 0)) l++(if kC then l.map fun v=>[KX x v] else [])
def dH (x:Int) (len kC:Bool) (b:List UInt8) (l:List V3):Int:=b.length+zF b x+(if len then x else 0)+x*l.length+(if kC then (l.length:Int) else 0)
theorem V2 {x:Int} (hx:isW x=true) (len kC:Bool) (b:List UInt8) (l:List V3):(b.length:Int)+(vJ x len kC b l).flatten.length=dH x len kC b l:=by
 have h1:=QY hx l ((b.length:Int)+zF b x+(if len then x else 0));have h2:=pO x l;have hp:=zY hx;unfold vJ dH;cases len<;>cases kC<;>simp only[List.flatten_append,List.flatten_cons,List.length_append,List.flatten_nil,List.length_nil,zM,zW,if_true,Bool.false_eq_true,if_false,List.cons_append,List.nil_append] at h1⊢<;>omega
theorem V4 {p:Int→Bool} (h:Ft.leastOf p≠0):p (Ft.leastOf p)=true:=by
 revert h
 unfold Ft.leastOf
 repeat' split
 all_goals simp_all
theorem fN {p:Int→Bool} (h:p 8=true):Ft.leastOf p≠0:=by
 unfold Ft.leastOf
 repeat' split
 all_goals simp_all
def QZ (n:Int) (v:V3):Prop:=j6 v=0∧okV v∧(inlineB v.1=true→v.2.1≤8)∧(inlineB v.1=false→v.2.2≤n)
theorem lG {n:Int}:∀(l:List V3) (i:Int),(∀v∈l,QZ n v)→0≤n→0≤i→n+8+(i+l.length)*8 < 18446744073709551616→fitsL l n i 8=true
 | [],_,_,_,_,_=>rfl
 | v::r,i,h,hn,hi,hb=>by
  have hv:=h v zp2;obtain⟨_,ho,h1,h2⟩:=hv;have hc:((v::r).length:Int)=r.length+1:=by simp
  rw[hc] at hb;have e:fitsL (v::r) n i 8=(fitsV v n i 8 && fitsL r n (i+1) 8):=rfl;rw[e,lG r (i+1) (fun u hu=>h u (by simp[hu])) hn zo zo,Bool.and_true];unfold fitsV fitsF
  cases hi2:inlineB v.1 with
  | true=>simp;exact h1 hi2
  | false=>
   have:=h2 hi2;have h0:=ho.1;simp only[Bool.false_eq_true,if_false,Bool.and_eq_true,decide_eq_true_eq,belowW];refine⟨this,?_⟩;show (n+8 - 1) / 8*8+i*8 - v.2.2 < 2 ^ (8*(8:Int).toNat);have:(2:Int) ^ (8*(8:Int).toNat)=18446744073709551616:=by decide
   omega
theorem VM {n ahead:Int} {l:List V3} (ha:ahead=0∨ahead=1) (hn:0≤n) (hn2:n≤1048576) (hl:l.length≤1048576) (h:∀v∈l,QZ n v) :
 allF l (0,0,0) n ahead=Ft.leastOf (fun v=>allAt l (0,0,0) n ahead v)∧allF l (0,0,0) n ahead≠0∧isW (allF l (0,0,0) n ahead)=true∧allAt l (0,0,0) n ahead (allF l (0,0,0) n ahead)=true:=by
 have hA:isA ahead:=by rcases ha with rfl | rfl<;>simp[isA]
 have e:allF l (0,0,0) n ahead=Ft.leastOf (fun v=>allAt l (0,0,0) n ahead v):=by
  unfold allF;rw[if_pos ⟨⟨hn,by omega⟩,hA,hl⟩]
 have h8:allAt l (0,0,0) n ahead 8=true:=by
  unfold allAt;rw[lG l ahead h hn zo zo,Bool.and_true];unfold headF;have:(ahead == 3)=false:=by rcases ha with rfl | rfl<;>rfl
  rw[this];have hb:belowW l.length 8=true:=by unfold belowW;rw[decide_eq_true_eq];have:(2:Int) ^ (8*(8:Int).toNat)=18446744073709551616:=zd;omega
  rw[hb];simp
 have h0:allF l (0,0,0) n ahead≠0:=by rw[e];exact fN h8
 refine⟨e,h0,QV h0,?_⟩;have:=V4 (p:=fun v=>allAt l (0,0,0) n ahead v) (by rw[← e];exact h0);rw[← e] at this;exact this
theorem tT {jB:Int} {T:V3→Int} {len kC:Bool} {kind:Int} {b:List UInt8} {l:List V3} (hT:∀v∈l,T v=0) (hb:b.length≤1048576) (hl:l.length≤1048576) (h:∀v∈l,QZ b.length v) :
 z8 jB T len kC kind 0 l (b,0)=(fun x=>(fun sf:St=>if sf.2≠0 then (((0,0,0),sf.2),sf) else (((kind,x,((y7 jB (kM (zF b x)::(if len then [yD x.toNat l.length] else [])) (b,0)).1.length:Int)),0),sf)) (y7 jB (vJ x len kC b l) (b,0))) (allF l (0,0,0) b.length (if len then 1 else 0)):=by
 have hT0:zX T 0 l=0:=by
  clear hl h
  induction l with
  | nil=>rfl
  | cons v r ih=>
   show zX T (if (0:Int)=0 then T v else 0) r=0;rw[if_pos rfl,hT v zp2];exact ih fun u hu=>hT u (by simp[hu])
 obtain⟨e,x0,hx,JI⟩:=VM (n:=b.length) (ahead:=if len then 1 else 0) (by cases len<;>simp) zo zo hl h;unfold z8;rw[if_neg (by simpa using hT0)];simp only[if_neg x0];generalize allF l (0,0,0) b.length (if len then 1 else 0)=x at *;have hw:=zY hx
 have hfit:fitsL l b.length (if len then 1 else 0) x=true:=by
  have h:=JI;unfold allAt at h;simp only[Bool.and_eq_true] at h;exact h.2
 have kN:len=true→(l.length:Int) < 2 ^ (8*x.toNat):=by
  intro hl1;subst hl1;have h:=JI;unfold allAt headF at h;simp only[Bool.and_eq_true,belowW] at h;have:=h.1.1;simpa using this
 have hp:=tS hx b
 have e1:jK jB x (b,0)=y7 jB [kM (zF b x)] (b,0):=by
  unfold jK;rw[if_pos hx];rfl
 have e2:(if len then jZ jB x l.length (jK jB x (b,0)) else jK jB x (b,0))=y7 jB (kM (zF b x)::(if len then [yD x.toNat l.length] else [])) (b,0):=by
  rw[e1]
  cases len with
  | false=>rfl
  | true=>
   rw[if_pos rfl,bN hx (kN rfl)];rfl
 have e2':(if len=true then jZ jB x (↑l.length) (jK jB x (b,0)) else jK jB x (b,0))=y7 jB (kM (zF b x)::(if len then [yD x.toNat l.length] else [])) (b,0):=e2;rw[e2']
 have e3:(if kC=true then zL jB x l (jU jB x l (y7 jB (kM (zF b x)::(if len then [yD x.toNat l.length] else [])) (b,0))) else jU jB x l (y7 jB (kM (zF b x)::(if len then [yD x.toNat l.length] else [])) (b,0)))=y7 jB (vJ x len kC b l) (b,0):=by
  have e4:jU jB x l (y7 jB (kM (zF b x)::(if len then [yD x.toNat l.length] else [])) (b,0))=y7 jB (aG x ((b.length:Int)+zF b x+(if len then x else 0)) l) (y7 jB (kM (zF b x)::(if len then [yD x.toNat l.length] else [])) (b,0)):=by
   by_cases hf:(b.length:Int)+(kM (zF b x)::(if len then [yD x.toNat l.length] else [])).flatten.length≤jB
   ·rw[YL _ _ hf]
    have hl2:((b++(kM (zF b x)::(if len then [yD x.toNat l.length] else [])).flatten).length:Int)=(b.length:Int)+zF b x+(if len then x else 0):=by
     cases len<;>simp[zM,zW]<;>omega
    rw[bO hx l _ (by
     rw[hl2];refine nD hx l (if len then 1 else 0) _ ?_ (by cases len<;>simp) hfit;rw[hp]
     cases len<;>simp),hl2]
   ·by_cases hb2:(b.length:Int)≤jB
    ·have h5:(y7 jB (kM (zF b x)::(if len then [yD x.toNat l.length] else [])) (b,0)).2≠0:=(by rw[(fM _ b hb2 hf).1];decide);rw[ZB h5,JQ h5]
    ·have h5:y7 jB (kM (zF b x)::(if len then [yD x.toNat l.length] else [])) (b,0)=(b,5):=by
      show y7 jB _ (kF jB (kM (zF b x)) (b,0))=_;rw[VL (by rw[zM];omega),JQ (s:=(b,5)) (show (5:Int)≠0 by decide)]
     rw[h5,ZB (s:=(b,5)) (show (5:Int)≠0 by decide),JQ (s:=(b,5)) (show (5:Int)≠0 by decide)]
  rw[e4];unfold vJ;rw[Y2,Y2]
  cases kC with
  | false=>rfl
  | true=>
   rw[if_pos rfl,if_pos rfl,dG]
 rw[e3]
theorem putF_ok {jB:Int} {T:V3→Int} {len kC:Bool} {kind:Int} {b:List UInt8} {l:List V3} {x:Int} (hT:∀v∈l,T v=0) (hb:b.length≤1048576) (hl:l.length≤1048576) (h:∀v∈l,QZ b.length v)
 (hx:allF l (0,0,0) b.length (if len then 1 else 0)=x) (hr:dH x len kC b l≤jB):z8 jB T len kC kind 0 l (b,0)=(((kind,x,(b.length:Int)+zF b x+(if len then x else 0)),0),(b++(vJ x len kC b l).flatten,0)):=by
 obtain⟨_,_,hw,_⟩:=VM (n:=b.length) (ahead:=if len then 1 else 0) (by cases len<;>simp) zo zo hl h;rw[tT hT hb hl h];simp only[hx];rw[hx] at hw;have hwp:=zY hw;have hpl:=V2 hw len kC b l;rw[YL (vJ x len kC b l) b zo];have hmul:0≤x*(l.length:Int):=Int.mul_nonneg zo zo;rw[if_neg zp2,YL _ b (by unfold dH at hr;cases len<;>cases kC<;>simp[zM,zW] at hr⊢<;>omega)]
 have hl2:((b++(kM (zF b x)::(if len then [yD x.toNat l.length] else [])).flatten).length:Int)=(b.length:Int)+zF b x+(if len then x else 0):=by
  cases len<;>simp[zM,zW]<;>omega
 rw[hl2]
end Go.Proofs.YtdjoffgkndncfaaGreat
namespace Go.Proofs.YtdjoffgkndncfaaGreat
open Go Go.ChangeShapes Go.WideShapes Go.ChangeAt Go.RowKit Go.Joins Go.Deep
section
variable {H:Type} {enc:TypeId × Value→H} {W:World} {base:Nat} {v:Value} {d:DataW H} {p:List MemPlace}
end
end Go.Proofs.YtdjoffgkndncfaaGreat
namespace Go.Proofs.YtdjoffgkndncfaaGreat
open Go Go.ChangeShapes Go.WideShapes Go.ChangeAt Go.RowKit Go.Joins
open Go.Proofs.YtdjoffgkndncfaaGreat.Ft (V3 vV okV ValsAt inlineB legalB packF codeF typedF allF allAt headF fitsL fitsV fitsF belowW isA)
theorem pP (n:Int):0≤IntKind.u64.wrap n∧IntKind.u64.wrap n≤18446744073709551615:=by
 rw[IntKind.wrap_u64];omega
end Go.Proofs.YtdjoffgkndncfaaGreat
namespace Go.Proofs.YtdjoffgkndncfaaGreat
open Go Go.ChangeShapes Go.WideShapes Go.ChangeAt Go.RowKit Go.Joins
open Go.Proofs.YtdjoffgkndncfaaGreat.Ft (V3 vV okV ValsAt inlineB legalB packF codeF typedF allF allAt headF fitsL fitsV fitsF belowW isA unpackF)
theorem xX (n u:Nat):yD (n+1) u=UInt8.ofNat (u % 256)::yD n (u / 256):=by
 unfold yD;rw[List.range_succ_eq_map,List.map_cons,List.map_map];simp only[Nat.pow_zero,Nat.div_one];congr 1;apply List.map_congr_left;intro i _;simp only[Function.comp,Nat.succ_eq_add_one];rw[Nat.pow_succ,Nat.mul_comm (256 ^ i) 256,← Nat.div_div_eq_div_mul]
theorem pQ:∀(n u:Nat),u < 256 ^ n→leF (yD n u)=u
 | 0,u,h=>by
  have:u=0:=by simpa using h
  subst this;simp[yD,leF]
 | n+1,u,h=>by
  rw[xX];show ((UInt8.ofNat (u % 256)).toNat:Int)+256*leF (yD n (u / 256))=u;rw[pQ n (u / 256) (by rw[Nat.pow_succ] at h;omega),UInt8.toNat_ofNat'];omega
theorem pow_256 {x:Int} (hx:isW x=true):(256:Nat) ^ x.toNat=(2 ^ (8*x.toNat):Int):=by
 rcases zE hx with rfl|rfl|rfl|rfl<;>decide
theorem fO {X A C:List UInt8} {x u at_:Int} (hx:isW x=true) (hX:X=A++yD x.toNat u.toNat++C) (hA:(A.length:Int)=at_) (h0:0≤u) (h1:u < 2 ^ (8*x.toNat)):kJ X at_ x=(u,0):=by
 have hp:=zY hx;subst hX;unfold kJ;rw[if_pos hx,if_neg (by rw[List.length_append,List.length_append,zW];omega)]
 have e:(((A++yD x.toNat u.toNat++C).drop at_.toNat).take x.toNat)=yD x.toNat u.toNat:=by
  rw[← hA,show ((A.length:Int)).toNat=A.length by omega,List.append_assoc,List.drop_left,List.take_left' (zW _ _)]
 rw[e,pQ _ _ (by have:=pow_256 hx;omega)];rw[show (u.toNat:Int)=u by omega]
theorem wI {x:Int} (hx:isW x=true):∀(l:List V3) (p:Int) (k:Nat) (v:V3),l[k]? = some v→∃A C,(aG x p l).flatten=A++yD x.toNat (QH x (p+k*x) v).toNat++C∧(A.length:Int)=k*x
 | [],_,_,_,h=>by simp at h
 | u::r,p,0,v,h=>by
  simp at h;subst h;exact⟨[],(aG x (p+x) r).flatten,by simp[aG],by simp⟩
 | u::r,p,k+1,v,h=>by
  have hp:=zY hx;obtain⟨A,C,h1,h2⟩:=wI hx r (p+x) k v iG;refine⟨yD x.toNat (QH x p u).toNat++A,C,?_,?_⟩
  ·have e:p+x+(k:Int)*x=p+((k+1:Nat):Int)*x:=by rw[Int.natCast_add,Int.add_mul];simp;omega
   rw[e] at h1;simp only[aG,List.flatten_cons,h1,List.append_assoc]
  ·rw[List.length_append,zW,Int.natCast_add,h2,Int.natCast_add,Int.add_mul];simp;omega
theorem nE (x:Int) (l:List V3):(l.map fun v=>[KX x v]).flatten=l.map (KX x):=by
 induction l with
 | nil=>rfl
 | cons v r ih=>simp only[List.map_cons,List.flatten_cons,ih];rfl
theorem lH:∀(l:List V3) (at_ i x:Int) (k:Nat) (v:V3),fitsL l at_ i x=true→l[k]? = some v→fitsV v at_ (i+k) x=true
 | [],_,_,_,_,_,_,h=>by simp at h
 | u::r,at_,i,x,0,v,hf,h=>by
  have:(fitsV u at_ i x && fitsL r at_ (i+1) x)=true:=hf;simp at this h;subst h;simpa using this.1
 | u::r,at_,i,x,k+1,v,hf,h=>by
  have:(fitsV u at_ i x && fitsL r at_ (i+1) x)=true:=hf;simp only[Bool.and_eq_true] at this;have h2:=lH r at_ (i+1) x k v this.2 iG;rw[show i+((k+1:Nat):Int)=i+1+k by omega];exact h2
theorem pR {x:Int}:∀(l:List V3) (p:Int) (k:Nat) (v:V3),fitE x p l→l[k]? = some v→0≤QH x (p+k*x) v∧QH x (p+k*x) v < 2 ^ (8*x.toNat)
 | [],_,_,_,_,h=>by simp at h
 | u::r,p,0,v,hf,h=>by
  simp at h;subst h;simpa using hf.1
 | u::r,p,k+1,v,hf,h=>by
  have h2:=pR r (p+x) k v hf.2 iG;have e:p+x+(k:Int)*x=p+((k+1:Nat):Int)*x:=by rw[Int.natCast_add,Int.add_mul];simp;omega
  rw[e] at h2;exact h2
theorem fP {x:Int} {v:V3} (hx:isW x=true) (hl:j6 v=0):unpackF (KX x v).toNat=(v.1,if inlineB v.1 then x else v.2.1,0):=by
 obtain⟨t,wd,n⟩:=v;unfold j6 at hl;by_cases hlb:legalB t=true
 ·have hww:isW (if inlineB t then x else wd)=true:=by
   split
   ·exact hx
   ·rename_i hn;rw[if_pos hlb,if_neg hn] at hl;by_cases h:isW wd=true
    ·exact h
    ·rw[if_neg h] at hl;cases hl
  unfold KX;generalize (if inlineB t then x else wd)=y at *
  have ht:0≤t∧t < 37:=by
   by_cases h0:t < 0
   ·unfold legalB at hlb;simp[Ft.kindOf,h0] at hlb
   ·by_cases h1:t < 37
    ·exact⟨by omega,h1⟩
    ·exfalso;unfold legalB Ft.kindOf at hlb;rw[if_neg h0] at hlb
     have:Ft.kindRow t.toNat=(0,0,0):=by
      have hm:37≤t.toNat:=(by omega);generalize t.toNat=m at hm;unfold Ft.kindRow
      split<;>first | rfl | omega
     rw[this] at hlb;simp at hlb
  have hc:∃c:Nat,c < 4∧codeF y=some (c:Int)∧y=2 ^ c:=by
   rcases zE hww with rfl|rfl|rfl|rfl
   ·exact⟨0,by omega,rfl,rfl⟩
   ·exact⟨1,by omega,rfl,rfl⟩
   ·exact⟨2,by omega,rfl,rfl⟩
   ·exact⟨3,by omega,rfl,rfl⟩
  obtain⟨c,hc4,hcode,hy⟩:=hc
  have e:(packF t y).1=4*t+c:=by
   unfold packF;rw[if_pos hlb,hcode]
  rw[e,UInt8.toNat_ofNat',show (4*t+(c:Int)).toNat % 2 ^ 8=4*t.toNat+c by omega];unfold unpackF;rw[show (4*t.toNat+c) / 4=t.toNat by omega,show (4*t.toNat+c) % 4=c by omega,show ((t.toNat:Nat):Int)=t by omega,if_pos hlb,hy]
 ·rw[if_neg hlb] at hl;cases hl
end Go.Proofs.YtdjoffgkndncfaaGreat
namespace Go.Proofs.YtdjoffgkndncfaaGreat
open Go Go.ChangeShapes Go.WideShapes Go.ChangeAt Go.RowKit Go.Joins
open Go.Proofs.YtdjoffgkndncfaaGreat.Ft (V3 vV okV ValsAt inlineB legalB packF codeF typedF allF)
section
variable {w0 w w':World} {p q:Nat} {o o':Option Nat} {jB most':Int} {s t s' t':St}
end
end Go.Proofs.YtdjoffgkndncfaaGreat
