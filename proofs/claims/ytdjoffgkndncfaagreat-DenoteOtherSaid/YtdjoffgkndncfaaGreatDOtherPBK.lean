/-Texts-/
import Derived.Test.YtdjoffgkndncfaaGreatDOtherPBJ
import Derived.Test.YtdjoffgkndncfaaGreatDOtherPBH
set_option linter.unusedVariables false
set_option linter.unusedSimpArgs false
namespace Go.Proofs.YtdjoffgkndncfaaGreat
open Go Go.ChangeShapes Go.WideShapes Go.ChangeAt Go.RowKit Go.Joins
open Ft (V3 vV okV ValsAt inlineB legalB packF codeF typedF allF)
variable {w w':World} {B:Nat} {v:Value} {l:List V3}
def aK (v:V3):List Value:=[.int .i64 v.1,.int .i64 v.2.1,.int .u64 v.2.2]
def zQ (l:List V3):List Value:=l.flatMap aK
theorem YA (l:List V3):(zQ l).length=l.length*3:=by
 induction l with
 | nil=>rfl
 | cons v r ih=>
  have:zQ (v::r)=aK v++zQ r:=rfl;rw[this,zb,ih,zz];show 3+_=_;omega
theorem V4 (l m:List V3):zQ (l++m)=zQ l++zQ m:=by simp[zQ]
theorem eG (l:List V3) (i:Nat) (v:V3) (h:l[i]? = some v):(zQ l)[i*3]? = some (.int .i64 v.1)∧(zQ l)[i*3+1]? = some (.int .i64 v.2.1)∧(zQ l)[i*3+2]? = some (.int .u64 v.2.2):=by
 induction l generalizing i with
 | nil=>simp at h
 | cons u r ih=>
  have e:zQ (u::r)=.int .i64 u.1::.int .i64 u.2.1::.int .u64 u.2.2::zQ r:=rfl;rw[e]
  cases i with
  | zero=>simp at h;subst h;simp
  | succ i=>
   have h2:=ih i tZ;rw[show (i+1)*3=i*3+1+1+1 by omega,show i*3+1+1+1+1=(i*3+1)+1+1+1 by omega,show i*3+1+1+1+2=(i*3+2)+1+1+1 by omega];simpa only [xp] using h2
def jU (w:World) (B:Nat) (v:Value) (l:List V3):Prop:=w.ownsRow B 135 3 v l.length (zQ l)
theorem jU.vals (h:jU w B v l):ValsAt w v l:=by
 have h0:=h;obtain⟨_,h2⟩:=h;rcases h2 with ⟨rfl,hn⟩|⟨g,cap,cur,rfl,_,_,hn,_⟩
 ·have:l=[]:=List.length_eq_zero_iff.1 hn;subst this;exact⟨none,0,rfl,λi x hx=>by simp at hx⟩
 refine⟨some ⟨g,0,none⟩,cap,rfl,λi x hx=>⟨g,0,rfl,?_⟩⟩;have hi:=(zi.1 hx).1;obtain⟨e0,e1,e2⟩:=eG l i x hx;have hc:=World.ownsRow.cells h0 rfl
 have a:∀j,(⟨g,0,none⟩:Addr).add j=⟨g,0+j,none⟩:=by
  intro j;unfold Addr.add;split
  ·rename_i h;subst h;rfl
  rfl
 have c0:=hc _ _ e0;have c1:=hc _ _ e1;have c2:=hc _ _ e2;rw[a] at c0 c1 c2;exact⟨c0,c1,c2⟩
theorem Tryz.infoVal:(Tryz.prog.info? 135).map (λi=>(i.zero,i.size,i.bytes))=some (some (.agg #[.int .i64 0,.int .i64 0,.int .u64 0]),3,24):=by kernel_rfl
theorem pP:∃i0,Tryz.prog.info? 135=some i0∧i0.zero=some (.agg #[.int .i64 0,.int .i64 0,.int .u64 0])∧i0.size=3∧i0.bytes=24:=by
 have h:=Tryz.infoVal
 cases hq:Tryz.prog.info? 135 with
 | none=>simp[hq] at h
 | some i=>simp[hq] at h;exact⟨i,rfl,h.1,h.2.1,h.2.2⟩
theorem mH {ad:Addr} {cap:Nat} (h:ValsAt w (.slice (some ad) l.length cap) l):∀j u,(zQ l)[j]? = some u→w.cell? (ad.add j)=some u:=by
 obtain⟨a0,c0,e,hc⟩:=h;cases e;intro j u hj;have hjl:j < l.length*3:=by rw[← YA];exact (zi.1 hj).1
 have hd:j / 3 < l.length:=by omega
 have hq:j=j / 3*3∨j=j / 3*3+1∨j=j / 3*3+2:=by omega
 obtain⟨x,hx⟩:∃x,l[j / 3]? = some x:=⟨_,za hd⟩;obtain⟨b,off,e,d0,d1,d2⟩:=hc (j / 3) x hx;cases e;obtain⟨e0,e1,e2⟩:=eG l (j / 3) x hx;generalize j / 3=q at *
 have:(⟨b,off,none⟩:Addr).add j=⟨b,off+j,none⟩:=by
  unfold Addr.add;split
  ·rename_i h;subst h;rfl
  rfl
 rw[this];rcases hq with h|h|h
 ·rw[h] at hj;rw[e0] at hj;cases hj;rw[h];exact d0
 ·rw[h] at hj;rw[e1] at hj;cases hj;rw[h];exact d1
 rw[h] at hj;rw[e2] at hj;cases hj;rw[h];exact d2
theorem eH (l:List V3):∀u∈zQ l,u.oneCell'=true:=by
 intro u hu;simp only[zQ,List.mem_flatMap,aK,qp,List.not_mem_nil,or_false] at hu;obtain⟨x,_,rfl|rfl|rfl⟩:=hu<;>rfl
theorem qJ {ops:Array Oper} {rest:List Oper} {o:Oper} {a:Act} {Q:Exit→Act→World→Prop} (hgd:o.guard=none) (s x:Operand)
 (ho:o.op=.call {callee:=.builtin .append,args:=#[s,x],argTypes:=#[109,109]}) (B:Nat) (v:Value) (l:List V3) (hs:a.eval s=v) (j5:jU w B v l)
 (sv:Value) (l2:List V3) (hx:a.eval x=sv) (hsv:ValsAt w sv l2) (zX:∀c,sv=.slice none 0 c→c=0) (kE:l.length+l2.length≤1048576) (hB:B≤w.heap.size)
 (h:∀v' w',jU w' B v' (l++l2)→w.grownBy w' v.ownBlock→yX w v.ownBlock v'.ownBlock→wpList Tryz.prog ops Q rest (a.put o.dst v') w'):wpList Tryz.prog ops Q (o::rest) a w:=by
 obtain⟨i0,hi,hz0,hz1,hz2⟩:=pP;have hsv0:=hsv;obtain⟨sa,cap,rfl,hc⟩:=hsv
 cases sa with
 | none=>
  have h0:l2=[]:=by
   cases l2 with
   | nil=>rfl
   | cons y r=>obtain⟨b,off,e,_⟩:=hc 0 y rfl;cases e
  subst h0;have:=zX cap rfl;subst this;refine wpList_append_own_none hgd s x 109 ho B 135 i0 3 Tryz.underlying109 hi v l.length _ hs j5 hx ?_;exact h v w zp26 ⟨rfl,rfl,rfl,zr _,λ_ _ _=>rfl⟩ (yX.refl _ _)
 | some ad=>
  obtain⟨v',w',hr,h2,h3,h4⟩:=vT (P:=Tryz.prog) w B 109 o.type 135 i0 (.agg #[.int .i64 0,.int .i64 0,.int .u64 0]) 3 24 Tryz.underlying109 hi hz0 hz1 hz2 rfl zd v l.length _ j5 ad l2.length cap (zQ l2) (YA l2) (mH hsv0) (eH l2) gM zo hB;refine wpList_plain hgd λ_ hK=>Lib.wp_append_run w s x 109 109 ho v _ hs hx v' w' hr (hK _ _ (h v' w' ?_ h3 h4));unfold jU;rw[zb,V4];exact h2
theorem JM (h:jU w B v l) (hg:jC w w'):jU w' B v l:=Moved.owns (Moved.of_grew (S:=λ_=>False) hg) h (λ_ _ h=>h)
theorem Y2 (w:World) (x:V3):ValsAt (w.alloc (.cells #[.int .i64 x.1,.int .i64 x.2.1,.int .u64 x.2.2] 135)) (.slice (some ⟨w.heap.size,0,none⟩) 1 1) [x]:=by
 have h:=qc w (.cells #[.int .i64 x.1,.int .i64 x.2.1,.int .u64 x.2.2] 135);refine⟨_,1,rfl,λi y hy=>?_⟩;have hi:i=0:=by have:=(zi.1 hy).1;simp at this;omega
 subst hi;simp at hy;subst hy;exact⟨_,_,rfl,jO h 0 _ rfl,jO h 1 _ rfl,jO h 2 _ rfl⟩
theorem zI (h:jU w B v l):∃a c,v=.slice a l.length c∧(a=none→c=0):=by
 rcases h.2 with ⟨rfl,hn⟩|⟨g,cap,cur,rfl,_,_,hn,_⟩
 ·exact⟨none,0,by rw[hn],λ_=>rfl⟩
 exact⟨_,cap,rfl,λh=>by cases h⟩
theorem aL {wr:World} (h:jU wr w.heap.size v l) (hg:jC w wr) (hgr:wr.grownBy w' v.ownBlock):jC w w':=by
 have hgr2:Moved (λk=>some k=v.ownBlock) wr w':=Moved.of_grown hgr;refine⟨hgr2.os.trans hg.os,hgr2.tape.trans hg.tape,hgr2.output.trans hg.output,zf hg.size hgr2.size,λk hk=>?_⟩;refine (hgr2.block k (qk hk hg.size) λe=>?_).trans (hg.block k hk);rcases h.2 with ⟨rfl,hn⟩|⟨g,cap,cur,rfl,hb,_,_⟩
 ·cases e
 have:k=g:=by injection e
 omega
section
variable {lv:Value} {l:List V3} {jB:Int} {s:St}
end
abbrev bB:ByteArray:=⟨#[97,98,99]⟩
end Go.Proofs.YtdjoffgkndncfaaGreat
namespace Go.Proofs.YtdjoffgkndncfaaGreat
open Go Go.ChangeShapes Go.WideShapes Go.ChangeAt Go.RowKit Go.Joins
open Ft (V3 vV okV ValsAt inlineB legalB packF codeF typedF allF allAt headF fitsL fitsV fitsF belowW isA)
variable {jB x kind:Int} {l:List V3} {b:List UInt8} {p:Int→Bool} {T:V3→Int} {len jX:Bool}
section
variable {jB x u:Int} {y:List UInt8} {s:St} {v:V3}
theorem Y3 (h:s.2≠0):kQ jB y s=s:=by
 obtain⟨b,e⟩:=s;show (aA b y jB e,dK b y jB e)=(b,e);unfold aA dK;rw[ze (λk=>h k.1),ze (λk=>h k.1)]
theorem gZ (z:Int) (h:s.2≠0):bZ z s=s:=by
 obtain⟨b,e⟩:=s;show (b,zO e z)=(b,e);unfold zO;rw[ze h]
theorem mI (h:s.2≠0):j9 jB x u s=s:=by
 unfold j9;split
 ·split
  ·exact Y3 h
  exact gZ _ h
 exact gZ _ h
theorem wX (h:s.2≠0):qP jB x s v=s:=by
 unfold qP;split<;>exact mI h
theorem YK (h:s.2≠0):∀l:List V3,jY jB x l s=s
 | []=>rfl
 | v::r=>by
  show jY jB x r (qP jB x s v)=s;rw[wX h];exact YK h r
end
theorem bP {l y:List UInt8} (hf:¬(l.length:Int)+y.length≤jB):kQ jB y (l,0)=(l,5):=by
 show (aA l y jB 0,dK l y jB 0)=_;unfold aA dK;rw[ze (λk=>hf (by have:=k.2;omega)),zl ⟨rfl,λk=>hf zo⟩]
def qQ (jB:Int):List (List UInt8)→St→St
 | [],s=>s
 | y::r,s=>qQ jB r (kQ jB y s)
theorem YL (jB:Int):∀(ys zs:List (List UInt8)) (s:St),qQ jB (ys++zs) s=qQ jB zs (qQ jB ys s)
 | [],_,_=>rfl
 | y::r,zs,s=>YL jB r zs (kQ jB y s)
theorem KY {jB:Int} {s:St} (h:s.2≠0):∀ys,qQ jB ys s=s
 | []=>rfl
 | y::r=>by
  show qQ jB r (kQ jB y s)=s;rw[Y3 h];exact KY h r
theorem YR {jB:Int}:∀(ys:List (List UInt8)) (b:List UInt8),(b.length:Int)+ys.flatten.length≤jB→qQ jB ys (b,0)=(b++ys.flatten,0)
 | [],b,_=>by simp[qQ]
 | y::r,b,h=>by
  have h2:(b.length:Int)+y.length+r.flatten.length≤jB:=by simp at h⊢;omega
  show qQ jB r (kQ jB y (b,0))=_;rw[J1 jB b y zo,YR r (b++y) (by simp at h2⊢;omega)];simp
theorem mJ {jB:Int}:∀(ys:List (List UInt8)) (b:List UInt8),(b.length:Int)≤jB→¬(b.length:Int)+ys.flatten.length≤jB→(qQ jB ys (b,0)).2=5∧((qQ jB ys (b,0)).1.length:Int)≤jB
 | [],b,hb,h=>absurd (by simpa using hb) h
 | y::r,b,hb,h=>by
  show (qQ jB r (kQ jB y (b,0))).2=5∧((qQ jB r (kQ jB y (b,0))).1.length:Int)≤jB;by_cases hy:(b.length:Int)+y.length≤jB
  ·rw[J1 jB b y hy];exact mJ r (b++y) (by simpa using hy) (by simp at h⊢;omega)
  rw[bP hy,KY (s:=(b,5)) (show (5:Int)≠0 by decide)];exact⟨rfl,hb⟩
def YM (x p:Int) (v:V3):Int:=if inlineB v.1 then yD v.2.2 x else p - v.2.2
def QA (x:Int):Int→List V3→List (List UInt8)
 | _,[]=>[]
 | p,v::r=>k8 x.toNat (YM x p v).toNat::QA x (p+x) r
def fitE (x:Int):Int→List V3→Prop
 | _,[]=>True
 | p,v::r=>(0≤YM x p v∧YM x p v < 2 ^ (8*x.toNat))∧fitE x (p+x) r
theorem DP (hx:isW x=true):(2:Int) ^ (8*x.toNat)≤18446744073709551616:=by
 rcases zW hx with rfl|rfl|rfl|rfl<;>decide
theorem zA (hx:isW x=true):1≤x∧x≤8:=by
 rcases zW hx with rfl|rfl|rfl|rfl<;>decide
theorem Z7 {u:Int} {s:St} (hx:isW x=true) (h1:u < 2 ^ (8*x.toNat)):j9 jB x u s=kQ jB (k8 x.toNat u.toNat) s:=by
 unfold j9;rw[zl hx,zl (by unfold fB;exact qt h1)]
theorem pQ {v:V3} (hx:isW x=true) (h:0≤YM x b.length v∧YM x b.length v < 2 ^ (8*x.toNat)):qP jB x (b,0) v=kQ jB (k8 x.toNat (YM x b.length v).toNat) (b,0):=by
 have hp:=DP hx;unfold qP;unfold YM at h⊢;split
 ·rename_i hi;rw[zl hi] at h;exact Z7 hx h.2
 rename_i hi;rw[ze hi] at h;have e:IntKind.u64.wrap ((b.length:Int) - v.2.2)=(b.length:Int) - v.2.2:=by rw[IntKind.wrap_u64];omega
 show j9 jB x (IntKind.u64.wrap ((b.length:Int) - v.2.2)) (b,0)=_;rw[e];exact Z7 hx h.2
theorem VN {jB x:Int} (hx:isW x=true):∀(l:List V3) (b:List UInt8),fitE x b.length l→jY jB x l (b,0)=qQ jB (QA x b.length l) (b,0)
 | [],b,_=>rfl
 | v::r,b,h=>by
  have hp:=zA hx;show jY jB x r (qP jB x (b,0) v)=qQ jB (QA x ((b.length:Int)+x) r) (kQ jB (k8 x.toNat (YM x b.length v).toNat) (b,0));rw[pQ hx h.1];by_cases hf:(b.length:Int)+(k8 x.toNat (YM x b.length v).toNat).length≤jB
  ·rw[J1 _ _ _ hf];have e:(b.length:Int)+x=((b++k8 x.toNat (YM x b.length v).toNat).length:Int):=by rw[zb,kF];omega
   have h2:=h.2;rw[e] at h2⊢;exact VN hx r _ h2
  rw[bP hf,YK (s:=(b,5)) (show (5:Int)≠0 by decide),KY (s:=(b,5)) (show (5:Int)≠0 by decide)]
theorem aM {jB x:Int}:∀(l:List V3) (s:St),z6 jB x l s=qQ jB (l.map λv=>[KE x v]) s
 | [],s=>rfl
 | v::r,s=>by
  show z6 jB x r (sY jB x s v)=qQ jB (r.map λv=>[KE x v]) (kQ jB [KE x v] s);have:sY jB x s v=kQ jB [KE x v] s:=by unfold sY;rw[show jS [⟨#[KE x v]⟩]=[KE x v] by simp[jS]]
  rw[this];exact aM r _
theorem cV (hx:isW x=true) (b:List UInt8):(b.length:Int)+j8 b x=((b.length:Int)+x - 1) / x*x:=by
 unfold j8;rcases zW hx with rfl|rfl|rfl|rfl<;>omega
theorem Z8 {x:Int} (hx:isW x=true):∀(l:List V3) (p:Int),((QA x p l).flatten.length:Int)=x*l.length
 | [],p=>by simp[QA]
 | v::r,p=>by
  have h:=Z8 hx r (p+x);have hp:=zA hx;simp only[QA,List.flatten_cons,zb,kF,zz];have e:x*((r.length+1:Nat):Int)=x*r.length+x:=by rw[Int.natCast_add,Int.mul_add];simp
  rw[e];omega
theorem g9 (x:Int) (l:List V3):(l.map λv=>[KE x v]).flatten.length=l.length:=by
 induction l with
 | nil=>rfl
 | cons v r ih=>simp only[List.map_cons,List.flatten_cons,zb,zz,qg,ih];omega
theorem B7 (n x:Int):0≤yD n x∧yD n x < 2 ^ (8*x.toNat):=by
 unfold yD;have h:(0:Int) < 2 ^ (8*x.toNat):=Int.pow_pos zd;exact⟨xg _ zo,xd _ h⟩
theorem eI {x at_:Int} (hx:isW x=true):∀(l:List V3) (i p:Int),p=(at_+x - 1) / x*x+i*x→0≤i→fitsL l at_ i x=true→fitE x p l
 | [],_,_,_,_,_=>trivial
 | v::r,i,p,hp,hi,h=>by
  have hw:=zA hx
  have h1:fitsV v at_ i x=true:=by
   have:(fitsV v at_ i x && fitsL r at_ (i+1) x)=true:=h;simp at this;exact this.1
  have h2:fitsL r at_ (i+1) x=true:=by
   have:(fitsV v at_ i x && fitsL r at_ (i+1) x)=true:=h;simp at this;exact this.2
  have hs:p+x=(at_+x - 1) / x*x+(i+1)*x:=by rw[hp,Int.add_mul];omega
  refine⟨?_,eI hx r (i+1) (p+x) hs zo h2⟩;unfold YM;split
  ·exact B7 _ _
  rename_i hn;unfold fitsV fitsF at h1;rw[ze hn] at h1;simp only[zg,zp,belowW] at h1;have hge:at_≤(at_+x - 1) / x*x:=by rcases zW hx with rfl | rfl | rfl | rfl<;>omega
  have hix:0≤i*x:=Int.mul_nonneg hi zo;rw[hp];exact⟨by omega,h1.2⟩
def JW (x:Int) (len jX:Bool) (b:List UInt8) (l:List V3):List (List UInt8):=
 kD (j8 b x)::(if len then [k8 x.toNat l.length] else [])++QA x ((b.length:Int)+j8 b x+(if len then x else 0)) l++(if jX then l.map λv=>[KE x v] else [])
def pR (x:Int) (len jX:Bool) (b:List UInt8) (l:List V3):Int:=b.length+j8 b x+(if len then x else 0)+x*l.length+(if jX then (l.length:Int) else 0)
theorem QN (hx:isW x=true) (len jX:Bool) (b:List UInt8) (l:List V3):(b.length:Int)+(JW x len jX b l).flatten.length=pR x len jX b l:=by
 have h1:=Z8 hx l ((b.length:Int)+j8 b x+(if len then x else 0));have h2:=g9 x l;have hp:=zA hx;unfold JW pR;cases len<;>cases jX<;>simp only[List.flatten_append,List.flatten_cons,zb,List.flatten_nil,qg,jT,kF,if_true,Bool.false_eq_true,if_false,qz,xm] at h1⊢<;>omega
theorem QO (h:Ft.leastOf p≠0):p (Ft.leastOf p)=true:=by
 revert h
 unfold Ft.leastOf
 repeat' split
 all_goals simp_all
theorem cW (h:p 8=true):Ft.leastOf p≠0:=by
 unfold Ft.leastOf
 repeat' split
 all_goals simp_all
def aN (n:Int) (v:V3):Prop:=kG v=0∧okV v∧(inlineB v.1=true→v.2.1≤8)∧(inlineB v.1=false→v.2.2≤n)
theorem fO {n:Int}:∀(l:List V3) (i:Int),(∀v∈l,aN n v)→0≤n→0≤i→n+8+(i+l.length)*8 < 18446744073709551616→fitsL l n i 8=true
 | [],_,_,_,_,_=>rfl
 | v::r,i,h,hn,hi,hb=>by
  have hv:=h v zp2;obtain⟨_,ho,h1,h2⟩:=hv;have hc:((v::r).length:Int)=r.length+1:=by simp
  rw[hc] at hb;have e:fitsL (v::r) n i 8=(fitsV v n i 8 && fitsL r n (i+1) 8):=rfl;rw[e,fO r (i+1) (λu hu=>h u (by simp[hu])) hn zo zo,Bool.and_true];unfold fitsV fitsF
  cases hi2:inlineB v.1 with
  | true=>simp;exact h1 hi2
  | false=>
   have:=h2 hi2;have h0:=ho.1;simp only[Bool.false_eq_true,if_false,zg,zp,belowW];refine⟨this,?_⟩;show (n+8 - 1) / 8*8+i*8 - v.2.2 < 2 ^ (8*(8:Int).toNat);have:(2:Int) ^ (8*(8:Int).toNat)=18446744073709551616:=by decide
   omega
theorem fP {n ahead:Int} (ha:ahead=0∨ahead=1) (hn:0≤n) (hn2:n≤1048576) (hl:l.length≤1048576) (h:∀v∈l,aN n v) :
 allF l (0,0,0) n ahead=Ft.leastOf (λv=>allAt l (0,0,0) n ahead v)∧allF l (0,0,0) n ahead≠0∧isW (allF l (0,0,0) n ahead)=true∧allAt l (0,0,0) n ahead (allF l (0,0,0) n ahead)=true:=by
 have hA:isA ahead:=by rcases ha with rfl | rfl<;>simp[isA]
 have e:allF l (0,0,0) n ahead=Ft.leastOf (λv=>allAt l (0,0,0) n ahead v):=by
  unfold allF;rw[zl ⟨⟨hn,by omega⟩,hA,hl⟩]
 have h8:allAt l (0,0,0) n ahead 8=true:=by
  unfold allAt;rw[fO l ahead h hn zo zo,Bool.and_true];unfold headF;have:(ahead == 3)=false:=by rcases ha with rfl | rfl<;>rfl
  rw[this];have hb:belowW l.length 8=true:=by unfold belowW;rw[zp];have:(2:Int) ^ (8*(8:Int).toNat)=18446744073709551616:=zd;omega
  rw[hb];simp
 have h0:allF l (0,0,0) n ahead≠0:=by rw[e];exact cW h8
 refine⟨e,h0,Q3 h0,?_⟩;have:=QO (p:=λv=>allAt l (0,0,0) n ahead v) (by rw[← e];exact h0);rw[← e] at this;exact this
theorem B8 (hT:∀v∈l,T v=0) (hb:b.length≤1048576) (hl:l.length≤1048576) (h:∀v∈l,aN b.length v) :
 yS jB T len jX kind 0 l (b,0)=(λx=>(λsf:St=>if sf.2≠0 then (((0,0,0),sf.2),sf) else (((kind,x,((qQ jB (kD (j8 b x)::(if len then [k8 x.toNat l.length] else [])) (b,0)).1.length:Int)),0),sf)) (qQ jB (JW x len jX b l) (b,0))) (allF l (0,0,0) b.length (if len then 1 else 0)):=by
 have hT0:yK T 0 l=0:=by
  clear hl h
  induction l with
  | nil=>rfl
  | cons v r ih=>
   show yK T (if (0:Int)=0 then T v else 0) r=0;rw[zl rfl,hT v zp2];exact ih λu hu=>hT u (by simp[hu])
 obtain⟨e,x0,hx,qG⟩:=fP (n:=b.length) (ahead:=if len then 1 else 0) (by cases len<;>simp) zo zo hl h;unfold yS;rw[ze (by simpa using hT0)];simp only[ze x0];generalize allF l (0,0,0) b.length (if len then 1 else 0)=x at *;have hw:=zA hx
 have hfit:fitsL l b.length (if len then 1 else 0) x=true:=by
  have h:=qG;unfold allAt at h;simp only[zg] at h;exact h.2
 have kE:len=true→(l.length:Int) < 2 ^ (8*x.toNat):=by
  intro hl1;subst hl1;have h:=qG;unfold allAt headF at h;simp only[zg,belowW] at h;have:=h.1.1;simpa using this
 have hp:=cV hx b
 have e1:jL jB x (b,0)=qQ jB [kD (j8 b x)] (b,0):=by
  unfold jL;rw[zl hx];rfl
 have e2:(if len then j9 jB x l.length (jL jB x (b,0)) else jL jB x (b,0))=qQ jB (kD (j8 b x)::(if len then [k8 x.toNat l.length] else [])) (b,0):=by
  rw[e1]
  cases len with
  | false=>rfl
  | true=>
   rw[zl rfl,Z7 hx (kE rfl)];rfl
 have e2':(if len=true then j9 jB x (↑l.length) (jL jB x (b,0)) else jL jB x (b,0))=qQ jB (kD (j8 b x)::(if len then [k8 x.toNat l.length] else [])) (b,0):=e2;rw[e2']
 have e3:(if jX=true then z6 jB x l (jY jB x l (qQ jB (kD (j8 b x)::(if len then [k8 x.toNat l.length] else [])) (b,0))) else jY jB x l (qQ jB (kD (j8 b x)::(if len then [k8 x.toNat l.length] else [])) (b,0)))=qQ jB (JW x len jX b l) (b,0):=by
  have e4:jY jB x l (qQ jB (kD (j8 b x)::(if len then [k8 x.toNat l.length] else [])) (b,0))=qQ jB (QA x ((b.length:Int)+j8 b x+(if len then x else 0)) l) (qQ jB (kD (j8 b x)::(if len then [k8 x.toNat l.length] else [])) (b,0)):=by
   by_cases hf:(b.length:Int)+(kD (j8 b x)::(if len then [k8 x.toNat l.length] else [])).flatten.length≤jB
   ·rw[YR _ _ hf]
    have hl2:((b++(kD (j8 b x)::(if len then [k8 x.toNat l.length] else [])).flatten).length:Int)=(b.length:Int)+j8 b x+(if len then x else 0):=by
     cases len<;>simp[jT,kF]<;>omega
    rw[VN hx l _ (by
     rw[hl2];refine eI hx l (if len then 1 else 0) _ ?_ (by cases len<;>simp) hfit;rw[hp]
     cases len<;>simp),hl2]
   by_cases hb2:(b.length:Int)≤jB
   ·have h5:(qQ jB (kD (j8 b x)::(if len then [k8 x.toNat l.length] else [])) (b,0)).2≠0:=(by rw[(mJ _ b hb2 hf).1];decide);rw[YK h5,KY h5]
   have h5:qQ jB (kD (j8 b x)::(if len then [k8 x.toNat l.length] else [])) (b,0)=(b,5):=by
    show qQ jB _ (kQ jB (kD (j8 b x)) (b,0))=_;rw[bP (by rw[jT];omega),KY (s:=(b,5)) (show (5:Int)≠0 by decide)]
   rw[h5,YK (s:=(b,5)) (show (5:Int)≠0 by decide),KY (s:=(b,5)) (show (5:Int)≠0 by decide)]
  rw[e4];unfold JW;rw[YL,YL]
  cases jX with
  | false=>rfl
  | true=>
   rw[zl rfl,zl rfl,aM]
 rw[e3]
theorem DQ (hT:∀v∈l,T v=0) (hb:b.length≤1048576) (hl:l.length≤1048576) (h:∀v∈l,aN b.length v)
 (hx:allF l (0,0,0) b.length (if len then 1 else 0)=x) (hr:pR x len jX b l≤jB):yS jB T len jX kind 0 l (b,0)=(((kind,x,(b.length:Int)+j8 b x+(if len then x else 0)),0),(b++(JW x len jX b l).flatten,0)):=by
 obtain⟨_,_,hw,_⟩:=fP (n:=b.length) (ahead:=if len then 1 else 0) (by cases len<;>simp) zo zo hl h;rw[B8 hT hb hl h];simp only[hx];rw[hx] at hw;have hwp:=zA hw;have hpl:=QN hw len jX b l;rw[YR (JW x len jX b l) b zo];have hmul:0≤x*(l.length:Int):=Int.mul_nonneg zo zo;rw[ze zp2,YR _ b (by unfold pR at hr;cases len<;>cases jX<;>simp[jT,kF] at hr⊢<;>omega)]
 have hl2:((b++(kD (j8 b x)::(if len then [k8 x.toNat l.length] else [])).flatten).length:Int)=(b.length:Int)+j8 b x+(if len then x else 0):=by
  cases len<;>simp[jT,kF]<;>omega
 rw[hl2]
end Go.Proofs.YtdjoffgkndncfaaGreat
namespace Go.Proofs.YtdjoffgkndncfaaGreat
open Go Go.ChangeShapes Go.WideShapes Go.ChangeAt Go.RowKit Go.Joins Go.Deep
section
variable {H:Type} {enc:TypeId × Value→H} {W:World} {base:Nat} {v:Value} {d:DataW H} {p:List MemPlace}
end
end Go.Proofs.YtdjoffgkndncfaaGreat
namespace Go.Proofs.YtdjoffgkndncfaaGreat
open Go Go.ChangeShapes Go.WideShapes Go.ChangeAt Go.RowKit Go.Joins
open Ft (V3 vV okV ValsAt inlineB legalB packF codeF typedF allF allAt headF fitsL fitsV fitsF belowW isA)
theorem wY (n:Int):0≤IntKind.u64.wrap n∧IntKind.u64.wrap n≤18446744073709551615:=by
 rw[IntKind.wrap_u64];omega
theorem B9 {a:Int} {l:List V3} (h:∀v∈l,aN a v):∀v∈l,kG v=0:=λv hv=>(h v hv).1
theorem wZ {x:Int} (hx:isW x=true) (len jX:Bool) (b:List UInt8) (l:List V3):pR x len jX b l≤b.length+15+9*l.length:=by
 have hw:=zA hx;have hp:=(dL (l:=b) hx).1;have hm:x*(l.length:Int)≤8*l.length:=Int.mul_le_mul_of_nonneg_right hw.2 zo;unfold pR;cases len<;>cases jX<;>simp only[if_true,Bool.false_eq_true,if_false]<;>omega
end Go.Proofs.YtdjoffgkndncfaaGreat
namespace Go.Proofs.YtdjoffgkndncfaaGreat
open Go Go.ChangeShapes Go.WideShapes Go.ChangeAt Go.RowKit Go.Joins
open Ft (V3 vV okV ValsAt inlineB legalB packF codeF typedF allF allAt headF fitsL fitsV fitsF belowW isA unpackF)
variable {x u at_:Int} {X:List UInt8}
theorem FD (n u:Nat):k8 (n+1) u=UInt8.ofNat (u % 256)::k8 n (u / 256):=by
 unfold k8;rw[List.range_succ_eq_map,List.map_cons,xe];simp only[Nat.pow_zero,Nat.div_one];congr 1;apply List.map_congr_left;intro i _;simp only[Function.comp,Nat.succ_eq_add_one];rw[Nat.pow_succ,Nat.mul_comm (256 ^ i) 256,← Nat.div_div_eq_div_mul]
theorem xA:∀(n u:Nat),u < 256 ^ n→leF (k8 n u)=u
 | 0,u,h=>by
  have:u=0:=by simpa using h
  subst this;simp[k8,leF]
 | n+1,u,h=>by
  rw[FD];show ((UInt8.ofNat (u % 256)).toNat:Int)+256*leF (k8 n (u / 256))=u;rw[xA n (u / 256) (by rw[Nat.pow_succ] at h;omega),UInt8.toNat_ofNat'];omega
theorem pow_256 (hx:isW x=true):(256:Nat) ^ x.toNat=(2 ^ (8*x.toNat):Int):=by
 rcases zW hx with rfl|rfl|rfl|rfl<;>decide
theorem ZE {A C:List UInt8} (hx:isW x=true) (hX:X=A++k8 x.toNat u.toNat++C) (hA:(A.length:Int)=at_) (h0:0≤u) (h1:u < 2 ^ (8*x.toNat)):k7 X at_ x=(u,0):=by
 have hp:=zA hx;subst hX;unfold k7;rw[zl hx,ze (by rw[zb,zb,kF];omega)]
 have e:(((A++k8 x.toNat u.toNat++C).drop at_.toNat).take x.toNat)=k8 x.toNat u.toNat:=by
  rw[← hA,show ((A.length:Int)).toNat=A.length by omega,qe,List.drop_left,List.take_left' (kF _ _)]
 rw[e,xA _ _ (by have:=pow_256 hx;omega)];rw[show (u.toNat:Int)=u by omega]
theorem tA {x:Int} (hx:isW x=true):∀(l:List V3) (p:Int) (k:Nat) (v:V3),l[k]? = some v→∃A C,(QA x p l).flatten=A++k8 x.toNat (YM x (p+k*x) v).toNat++C∧(A.length:Int)=k*x
 | [],_,_,_,h=>by simp at h
 | u::r,p,0,v,h=>by
  simp at h;subst h;exact⟨[],(QA x (p+x) r).flatten,by simp[QA],by simp⟩
 | u::r,p,k+1,v,h=>by
  have hp:=zA hx;obtain⟨A,C,h1,h2⟩:=tA hx r (p+x) k v tZ;refine⟨k8 x.toNat (YM x p u).toNat++A,C,?_,?_⟩
  ·have e:p+x+(k:Int)*x=p+((k+1:Nat):Int)*x:=by rw[Int.natCast_add,Int.add_mul];simp;omega
   rw[e] at h1;simp only[QA,List.flatten_cons,h1,qe]
  rw[zb,kF,Int.natCast_add,h2,Int.natCast_add,Int.add_mul];simp;omega
theorem eJ (x:Int) (l:List V3):(l.map λv=>[KE x v]).flatten=l.map (KE x):=by
 induction l with
 | nil=>rfl
 | cons v r ih=>simp only[List.map_cons,List.flatten_cons,ih];rfl
theorem fQ:∀(l:List V3) (at_ i x:Int) (k:Nat) (v:V3),fitsL l at_ i x=true→l[k]? = some v→fitsV v at_ (i+k) x=true
 | [],_,_,_,_,_,_,h=>by simp at h
 | u::r,at_,i,x,0,v,hf,h=>by
  have:(fitsV u at_ i x && fitsL r at_ (i+1) x)=true:=hf;simp at this h;subst h;simpa using this.1
 | u::r,at_,i,x,k+1,v,hf,h=>by
  have:(fitsV u at_ i x && fitsL r at_ (i+1) x)=true:=hf;simp only[zg] at this;have h2:=fQ r at_ (i+1) x k v this.2 tZ;rw[show i+((k+1:Nat):Int)=i+1+k by omega];exact h2
theorem mK {x:Int}:∀(l:List V3) (p:Int) (k:Nat) (v:V3),fitE x p l→l[k]? = some v→0≤YM x (p+k*x) v∧YM x (p+k*x) v < 2 ^ (8*x.toNat)
 | [],_,_,_,_,h=>by simp at h
 | u::r,p,0,v,hf,h=>by
  simp at h;subst h;simpa using hf.1
 | u::r,p,k+1,v,hf,h=>by
  have h2:=mK r (p+x) k v hf.2 tZ;have e:p+x+(k:Int)*x=p+((k+1:Nat):Int)*x:=by rw[Int.natCast_add,Int.add_mul];simp;omega
  rw[e] at h2;exact h2
theorem cX {v:V3} (hx:isW x=true) (hl:kG v=0):unpackF (KE x v).toNat=(v.1,if inlineB v.1 then x else v.2.1,0):=by
 obtain⟨t,wd,n⟩:=v;unfold kG at hl;by_cases hlb:legalB t=true
 ·have hww:isW (if inlineB t then x else wd)=true:=by
   split
   ·exact hx
   rename_i hn;rw[zl hlb,ze hn] at hl;by_cases h:isW wd=true
   ·exact h
   rw[ze h] at hl;cases hl
  unfold KE;generalize (if inlineB t then x else wd)=y at *
  have ht:0≤t∧t < 37:=by
   by_cases h0:t < 0
   ·unfold legalB at hlb;simp[Ft.kindOf,h0] at hlb
   by_cases h1:t < 37
   ·exact⟨by omega,h1⟩
   exfalso;unfold legalB Ft.kindOf at hlb;rw[ze h0] at hlb
   have:Ft.kindRow t.toNat=(0,0,0):=by
    have hm:37≤t.toNat:=(by omega);generalize t.toNat=m at hm;unfold Ft.kindRow
    split<;>first | rfl | omega
   rw[this] at hlb;simp at hlb
  have hc:∃c:Nat,c < 4∧codeF y=some (c:Int)∧y=2 ^ c:=by
   rcases zW hww with rfl|rfl|rfl|rfl
   ·exact⟨0,by omega,rfl,rfl⟩
   ·exact⟨1,by omega,rfl,rfl⟩
   ·exact⟨2,by omega,rfl,rfl⟩
   exact⟨3,by omega,rfl,rfl⟩
  obtain⟨c,hc4,hcode,hy⟩:=hc
  have e:(packF t y).1=4*t+c:=by
   unfold packF;rw[zl hlb,hcode]
  rw[e,UInt8.toNat_ofNat',show (4*t+(c:Int)).toNat % 2 ^ 8=4*t.toNat+c by omega];unfold unpackF;rw[show (4*t.toNat+c) / 4=t.toNat by omega,show (4*t.toNat+c) % 4=c by omega,show ((t.toNat:Nat):Int)=t by omega,zl hlb,hy]
 rw[ze hlb] at hl;cases hl
theorem mL (h:k7 X at_ x=(u,0)):JG X at_ x=(sgnF u x,0):=by
 unfold JG;rw[h];rfl
end Go.Proofs.YtdjoffgkndncfaaGreat
namespace Go.Proofs.YtdjoffgkndncfaaGreat
open Go Go.ChangeShapes Go.WideShapes Go.ChangeAt Go.RowKit Go.Joins
open Ft (V3 vV okV ValsAt inlineB legalB packF codeF typedF allF)
section
variable {w0 w w':World} {p q:Nat} {o o':Option Nat} {jB most':Int} {s t s' t':St}
end
end Go.Proofs.YtdjoffgkndncfaaGreat
