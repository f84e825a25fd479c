/-
  Texts of the proof.
-/
import Derived.Test.YtjnpcddbgfmpcaaGreatDoorBMapsPBM
import Derived.Test.YtjnpcddbgfmpcaaGreatDoorBMapsPBK
set_option linter.unusedVariables false
set_option linter.unusedSimpArgs false
namespace Go.Proofs.YtjnpcddbgfmpcaaGreatDoor
open Go Go.ChangeShapes Go.WideShapes Go.ChangeAt Go.RowKit Go.Joins
open Go.Proofs.YtjnpcddbgfmpcaaGreatDoor.Ft (V3 vV okV ValsAt inlineB legalB packF codeF typedF allF)
def ZT (v:V3):List Value:=[.int .i64 v.1,.int .i64 v.2.1,.int .u64 v.2.2]
def kM (l:List V3):List Value:=l.flatMap ZT
theorem vX (l:List V3):(kM l).length=l.length*3:=by
 induction l with
 | nil=>rfl
 | cons v r ih=>
  have:kM (v::r)=ZT v++kM r:=rfl
  rw[this,List.length_append,ih,List.length_cons]
  show 3+_=_
  omega
theorem ZC (l m:List V3):kM (l++m)=kM l++kM m:=by simp[kM]
theorem QU (l:List V3) (i:Nat) (v:V3) (h:l[i]? = some v):(kM l)[i*3]? = some (.int .i64 v.1)∧(kM l)[i*3+1]? = some (.int .i64 v.2.1)∧(kM l)[i*3+2]? = some (.int .u64 v.2.2):=by
 induction l generalizing i with
 | nil=>simp at h
 | cons u r ih=>
  have e:kM (u::r)=.int .i64 u.1::.int .i64 u.2.1::.int .u64 u.2.2::kM r:=rfl
  rw[e]
  cases i with
  | zero=>simp at h;subst h;simp
  | succ i=>
   have h2:=ih i (by simpa using h)
   rw[show (i+1)*3=i*3+1+1+1 by omega,show i*3+1+1+1+1=(i*3+1)+1+1+1 by omega,show i*3+1+1+1+2=(i*3+2)+1+1+1 by omega]
   simpa only [List.getElem?_cons_succ] using h2
def jO (w:World) (B:Nat) (v:Value) (l:List V3):Prop:=w.ownsRow B 65 3 v l.length (kM l)
theorem jO.vals {w:World} {B:Nat} {v:Value} {l:List V3} (h:jO w B v l):ValsAt w v l:=by
 have h0:=h
 obtain⟨_,h2⟩:=h
 rcases h2 with ⟨rfl,hn⟩|⟨g,cap,cur,rfl,_,_,hn,_⟩
 ·have:l=[]:=List.length_eq_zero_iff.1 hn
  subst this
  exact⟨none,0,rfl,fun i x hx=>by simp at hx⟩
 ·refine⟨some ⟨g,0,none⟩,cap,rfl,fun i x hx=>⟨g,0,rfl,?_⟩⟩
  have hi:=(List.getElem?_eq_some_iff.1 hx).1
  obtain⟨e0,e1,e2⟩:=QU l i x hx
  have hc:=World.ownsRow.cells h0 rfl
  have a:∀j,(⟨g,0,none⟩:Addr).add j=⟨g,0+j,none⟩:=by
   intro j
   unfold Addr.add
   split
   ·rename_i h;subst h;rfl
   ·rfl
  have c0:=hc _ _ e0
  have c1:=hc _ _ e1
  have c2:=hc _ _ e2
  rw[a] at c0 c1 c2
  exact⟨c0,c1,c2⟩
theorem Tryz.infoVal:(Tryz.prog.info? 65).map (fun i=>(i.zero,i.size,i.bytes))=some (some (.agg #[.int .i64 0,.int .i64 0,.int .u64 0]),3,24):=by kernel_rfl
theorem dY:∃i0,Tryz.prog.info? 65=some i0∧i0.zero=some (.agg #[.int .i64 0,.int .i64 0,.int .u64 0])∧i0.size=3∧i0.bytes=24:=by
 have h:=Tryz.infoVal
 cases hq:Tryz.prog.info? 65 with
 | none=>simp[hq] at h
 | some i=>simp[hq] at h;exact⟨i,rfl,h.1,h.2.1,h.2.2⟩
theorem bN {w:World} {ad:Addr} {cap:Nat} {l:List V3} (h:ValsAt w (.slice (some ad) l.length cap) l):∀j u,(kM l)[j]? = some u→w.cell? (ad.add j)=some u:=by
 obtain⟨a0,c0,e,hc⟩:=h
 cases e
 intro j u hj
 have hjl:j < l.length*3:=by rw[← vX];exact (List.getElem?_eq_some_iff.1 hj).1
 have hd:j / 3 < l.length:=by omega
 have hq:j=j / 3*3∨j=j / 3*3+1∨j=j / 3*3+2:=by omega
 obtain⟨x,hx⟩:∃x,l[j / 3]? = some x:=⟨_,List.getElem?_eq_getElem hd⟩
 obtain⟨b,off,e,d0,d1,d2⟩:=hc (j / 3) x hx
 cases e
 obtain⟨e0,e1,e2⟩:=QU l (j / 3) x hx
 generalize j / 3=q at *
 have:(⟨b,off,none⟩:Addr).add j=⟨b,off+j,none⟩:=by
  unfold Addr.add
  split
  ·rename_i h;subst h;rfl
  ·rfl
 rw[this]
 rcases hq with h|h|h
 ·rw[h] at hj;rw[e0] at hj;cases hj;rw[h];exact d0
 ·rw[h] at hj;rw[e1] at hj;cases hj;rw[h];exact d1
 ·rw[h] at hj;rw[e2] at hj;cases hj;rw[h];exact d2
theorem QV (l:List V3):∀u∈kM l,u.oneCell'=true:=by
 intro u hu
 simp only[kM,List.mem_flatMap,ZT,List.mem_cons,List.not_mem_nil,or_false] at hu
 obtain⟨x,_,rfl|rfl|rfl⟩:=hu<;>rfl
theorem zT {ops:Array Oper} {rest:List Oper} {o:Oper} {a:Act} {w:World} {Q:Exit→Act→World→Prop} (hgd:o.guard=none) (s x:Operand)
 (ho:o.op=.call {callee:=.builtin .append,args:=#[s,x],argTypes:=#[57,57]}) (B:Nat) (v:Value) (l:List V3) (hs:a.eval s=v) (j3:jO w B v l)
 (sv:Value) (l2:List V3) (hx:a.eval x=sv) (hsv:ValsAt w sv l2) (kQ:∀c,sv=.slice none 0 c→c=0) (j8:l.length+l2.length≤1048576) (hB:B≤w.heap.size)
 (h:∀v' w',jO w' B v' (l++l2)→w.grownBy w' v.ownBlock→zO w v.ownBlock v'.ownBlock→wpList Tryz.prog ops Q rest (a.put o.dst v') w'):wpList Tryz.prog ops Q (o::rest) a w:=by
 obtain⟨i0,hi,hz0,hz1,hz2⟩:=dY
 have hsv0:=hsv
 obtain⟨sa,cap,rfl,hc⟩:=hsv
 cases sa with
 | none=>
  have h0:l2=[]:=by
   cases l2 with
   | nil=>rfl
   | cons y r=>obtain⟨b,off,e,_⟩:=hc 0 y rfl;cases e
  subst h0
  have:=kQ cap rfl
  subst this
  refine wpList_append_own_none hgd s x 57 ho B 65 i0 3 Tryz.underlying57 hi v l.length _ hs j3 hx ?_
  exact h v w (by rw[List.append_nil];exact j3) ⟨rfl,rfl,rfl,Nat.le_refl _,fun _ _ _=>rfl⟩ (zO.refl _ _)
 | some ad=>
  obtain⟨v',w',hr,h2,h3,h4⟩:=y6 (P:=Tryz.prog) w B 57 o.type 65 i0 (.agg #[.int .i64 0,.int .i64 0,.int .u64 0]) 3 24 Tryz.underlying57 hi hz0 hz1 hz2 rfl (by decide) v l.length _ j3 ad l2.length cap (kM l2) (vX l2) (bN hsv0) (QV l2) (by unfold maxLen;omega) (by omega) hB
  refine wpList_plain hgd fun _ hK=>Lib.wp_append_run w s x 57 57 ho v _ hs hx v' w' hr (hK _ _ (h v' w' ?_ h3 h4))
  unfold jO
  rw[List.length_append,ZC]
  exact h2
theorem yQ {w w':World} {B:Nat} {v:Value} {l:List V3} (h:jO w B v l) (hg:jA w w'):jO w' B v l:=Moved.owns (Moved.of_grew (S:=fun _=>False) hg) h (fun _ _ h=>h)
theorem vQ (w:World) (x:V3):ValsAt (w.alloc (.cells #[.int .i64 x.1,.int .i64 x.2.1,.int .u64 x.2.2] 65)) (.slice (some ⟨w.heap.size,0,none⟩) 1 1) [x]:=by
 have h:=heap_alloc_new w (.cells #[.int .i64 x.1,.int .i64 x.2.1,.int .u64 x.2.2] 65)
 refine⟨_,1,rfl,fun i y hy=>?_⟩
 have hi:i=0:=by have:=(List.getElem?_eq_some_iff.1 hy).1;simp at this;omega
 subst hi
 simp at hy
 subst hy
 exact⟨_,_,rfl,jK h 0 _ rfl,jK h 1 _ rfl,jK h 2 _ rfl⟩
theorem kD {w:World} {B:Nat} {v:Value} {l:List V3} (h:jO w B v l):∃a c,v=.slice a l.length c∧(a=none→c=0):=by
 rcases h.2 with ⟨rfl,hn⟩|⟨g,cap,cur,rfl,_,_,hn,_⟩
 ·exact⟨none,0,by rw[hn],fun _=>rfl⟩
 ·exact⟨_,cap,rfl,fun h=>by cases h⟩
theorem ZU {w wr w':World} {v:Value} {l:List V3} (h:jO wr w.heap.size v l) (hg:jA w wr) (hgr:wr.grownBy w' v.ownBlock):jA w w':=by
 have hgr2:Moved (fun k=>some k=v.ownBlock) wr w':=Moved.of_grown hgr
 refine⟨hgr2.os.trans hg.os,hgr2.tape.trans hg.tape,hgr2.output.trans hg.output,Nat.le_trans hg.size hgr2.size,fun k hk=>?_⟩
 refine (hgr2.block k (Nat.lt_of_lt_of_le hk hg.size) fun e=>?_).trans (hg.block k hk)
 rcases h.2 with ⟨rfl,hn⟩|⟨g,cap,cur,rfl,hb,_,_⟩
 ·cases e
 ·have:k=g:=by injection e
  omega
section
variable {lv:Value} {l:List V3} {most:Int} {s:St}
end
end Go.Proofs.YtjnpcddbgfmpcaaGreatDoor
namespace Go.Proofs.YtjnpcddbgfmpcaaGreatDoor
open Go Go.ChangeShapes Go.WideShapes Go.ChangeAt Go.RowKit Go.Joins
open Go.Proofs.YtjnpcddbgfmpcaaGreatDoor.Ft (V3 vV okV ValsAt inlineB legalB packF codeF typedF allF allAt headF fitsL fitsV fitsF belowW isA)
section
variable {most x u:Int} {y:List UInt8} {s:St} {v:V3}
theorem JT (h:s.2≠0):kA most y s=s:=by
 obtain⟨b,e⟩:=s
 show (ZL b y most e,QG b y most e)=(b,e)
 unfold ZL QG
 rw[if_neg (fun k=>h k.1),if_neg (fun k=>h k.1)]
theorem VZ (z:Int) (h:s.2≠0):YL z s=s:=by
 obtain⟨b,e⟩:=s
 show (b,kL e z)=(b,e)
 unfold kL
 rw[if_neg h]
theorem bO (h:s.2≠0):jW most x u s=s:=by
 unfold jW;split
 ·split
  ·exact JT h
  ·exact VZ _ h
 ·exact VZ _ h
theorem iG (h:s.2≠0):zX most x s v=s:=by
 unfold zX;split<;>exact bO h
theorem JB (h:s.2≠0):∀l:List V3,jU most x l s=s
 | []=>rfl
 | v::r=>by
  show jU most x r (zX most x s v)=s
  rw[iG h]
  exact JB h r
end
theorem YB {most:Int} {l y:List UInt8} (hf:¬(l.length:Int)+y.length≤most):kA most y (l,0)=(l,5):=by
 show (ZL l y most 0,QG l y most 0)=_
 unfold ZL QG
 rw[if_neg (fun k=>hf (by have:=k.2;omega)),if_pos ⟨rfl,fun k=>hf (by omega)⟩]
def zY (most:Int):List (List UInt8)→St→St
 | [],s=>s
 | y::r,s=>zY most r (kA most y s)
theorem JC (most:Int):∀(ys zs:List (List UInt8)) (s:St),zY most (ys++zs) s=zY most zs (zY most ys s)
 | [],_,_=>rfl
 | y::r,zs,s=>JC most r zs (kA most y s)
theorem qQ {most:Int} {s:St} (h:s.2≠0):∀ys,zY most ys s=s
 | []=>rfl
 | y::r=>by
  show zY most r (kA most y s)=s
  rw[JT h]
  exact qQ h r
theorem JH {most:Int}:∀(ys:List (List UInt8)) (b:List UInt8),(b.length:Int)+ys.flatten.length≤most→zY most ys (b,0)=(b++ys.flatten,0)
 | [],b,_=>by simp[zY]
 | y::r,b,h=>by
  have h2:(b.length:Int)+y.length+r.flatten.length≤most:=by simp at h⊢;omega
  show zY most r (kA most y (b,0))=_
  rw[vL most b y (by omega),JH r (b++y) (by simp at h2⊢;omega)]
  simp
theorem bP {most:Int}:∀(ys:List (List UInt8)) (b:List UInt8),(b.length:Int)≤most→¬(b.length:Int)+ys.flatten.length≤most→(zY most ys (b,0)).2=5∧((zY most ys (b,0)).1.length:Int)≤most
 | [],b,hb,h=>absurd (by simpa using hb) h
 | y::r,b,hb,h=>by
  show (zY most r (kA most y (b,0))).2=5∧((zY most r (kA most y (b,0))).1.length:Int)≤most
  by_cases hy:(b.length:Int)+y.length≤most
  ·rw[vL most b y hy]
   exact bP r (b++y) (by simpa using hy) (by simp at h⊢;omega)
  ·rw[YB hy,qQ (s:=(b,5)) (show (5:Int)≠0 by decide)]
   exact⟨rfl,hb⟩
def JD (x p:Int) (v:V3):Int:=if inlineB v.1 then kY v.2.2 x else p - v.2.2
def J0 (x:Int):Int→List V3→List (List UInt8)
 | _,[]=>[]
 | p,v::r=>kH x.toNat (JD x p v).toNat::J0 x (p+x) r
def fitE (x:Int):Int→List V3→Prop
 | _,[]=>True
 | p,v::r=>(0≤JD x p v∧JD x p v < 2 ^ (8*x.toNat))∧fitE x (p+x) r
theorem oB {x:Int} (hx:isW x=true):(2:Int) ^ (8*x.toNat)≤18446744073709551616:=by
 rcases kJ hx with rfl|rfl|rfl|rfl<;>decide
theorem kI {x:Int} (hx:isW x=true):1≤x∧x≤8:=by
 rcases kJ hx with rfl|rfl|rfl|rfl<;>decide
theorem KK {most x u:Int} {s:St} (hx:isW x=true) (h1:u < 2 ^ (8*x.toNat)):jW most x u s=kA most (kH x.toNat u.toNat) s:=by
 unfold jW
 rw[if_pos hx,if_pos (by unfold VA;exact decide_eq_true h1)]
theorem dZ {most x:Int} {b:List UInt8} {v:V3} (hx:isW x=true) (h:0≤JD x b.length v∧JD x b.length v < 2 ^ (8*x.toNat)):zX most x (b,0) v=kA most (kH x.toNat (JD x b.length v).toNat) (b,0):=by
 have hp:=oB hx
 unfold zX
 unfold JD at h⊢
 split
 ·rename_i hi
  rw[if_pos hi] at h
  exact KK hx h.2
 ·rename_i hi
  rw[if_neg hi] at h
  have e:IntKind.u64.wrap ((b.length:Int) - v.2.2)=(b.length:Int) - v.2.2:=by rw[IntKind.wrap_u64];omega
  show jW most x (IntKind.u64.wrap ((b.length:Int) - v.2.2)) (b,0)=_
  rw[e]
  exact KK hx h.2
theorem K2 {most x:Int} (hx:isW x=true):∀(l:List V3) (b:List UInt8),fitE x b.length l→jU most x l (b,0)=zY most (J0 x b.length l) (b,0)
 | [],b,_=>rfl
 | v::r,b,h=>by
  have hp:=kI hx
  show jU most x r (zX most x (b,0) v)=zY most (J0 x ((b.length:Int)+x) r) (kA most (kH x.toNat (JD x b.length v).toNat) (b,0))
  rw[dZ hx h.1]
  by_cases hf:(b.length:Int)+(kH x.toNat (JD x b.length v).toNat).length≤most
  ·rw[vL _ _ _ hf]
   have e:(b.length:Int)+x=((b++kH x.toNat (JD x b.length v).toNat).length:Int):=by rw[List.length_append,j9];omega
   have h2:=h.2
   rw[e] at h2⊢
   exact K2 hx r _ h2
  ·rw[YB hf,JB (s:=(b,5)) (show (5:Int)≠0 by decide),qQ (s:=(b,5)) (show (5:Int)≠0 by decide)]
theorem ZV {most x:Int}:∀(l:List V3) (s:St),kP most x l s=zY most (l.map fun v=>[qC x v]) s
 | [],s=>rfl
 | v::r,s=>by
  show kP most x r (fP most x s v)=zY most (r.map fun v=>[qC x v]) (kA most [qC x v] s)
  have:fP most x s v=kA most [qC x v] s:=by unfold fP;rw[show jP [⟨#[qC x v]⟩]=[qC x v] by simp[jP]]
  rw[this]
  exact ZV r _
theorem bQ {x:Int} (hx:isW x=true) (b:List UInt8):(b.length:Int)+j5 b x=((b.length:Int)+x - 1) / x*x:=by
 unfold j5
 rcases kJ hx with rfl|rfl|rfl|rfl<;>omega
theorem vR {x:Int} (hx:isW x=true):∀(l:List V3) (p:Int),((J0 x p l).flatten.length:Int)=x*l.length
 | [],p=>by simp[J0]
 | v::r,p=>by
  have h:=vR hx r (p+x)
  have hp:=kI hx
  simp only[J0,List.flatten_cons,List.length_append,j9,List.length_cons]
  have e:x*((r.length+1:Nat):Int)=x*r.length+x:=by rw[Int.natCast_add,Int.mul_add];simp
  rw[e]
  omega
theorem V0 (x:Int) (l:List V3):(l.map fun v=>[qC x v]).flatten.length=l.length:=by
 induction l with
 | nil=>rfl
 | cons v r ih=>simp only[List.map_cons,List.flatten_cons,List.length_append,List.length_cons,List.length_nil,ih];omega
theorem r7 (n x:Int):0≤kY n x∧kY n x < 2 ^ (8*x.toNat):=by
 unfold kY
 have h:(0:Int) < 2 ^ (8*x.toNat):=Int.pow_pos (by decide)
 exact⟨Int.emod_nonneg _ (by omega),Int.emod_lt_of_pos _ h⟩
theorem QW {x at_:Int} (hx:isW x=true):∀(l:List V3) (i p:Int),p=(at_+x - 1) / x*x+i*x→0≤i→fitsL l at_ i x=true→fitE x p l
 | [],_,_,_,_,_=>trivial
 | v::r,i,p,hp,hi,h=>by
  have hw:=kI hx
  have h1:fitsV v at_ i x=true:=by
   have:(fitsV v at_ i x && fitsL r at_ (i+1) x)=true:=h
   simp at this;exact this.1
  have h2:fitsL r at_ (i+1) x=true:=by
   have:(fitsV v at_ i x && fitsL r at_ (i+1) x)=true:=h
   simp at this;exact this.2
  have hs:p+x=(at_+x - 1) / x*x+(i+1)*x:=by rw[hp,Int.add_mul];omega
  refine⟨?_,QW hx r (i+1) (p+x) hs (by omega) h2⟩
  unfold JD
  split
  ·exact r7 _ _
  ·rename_i hn
   unfold fitsV fitsF at h1
   rw[if_neg hn] at h1
   simp only[Bool.and_eq_true,decide_eq_true_eq,belowW] at h1
   have hge:at_≤(at_+x - 1) / x*x:=by rcases kJ hx with rfl | rfl | rfl | rfl<;>omega
   have hix:0≤i*x:=Int.mul_nonneg hi (by omega)
   rw[hp]
   exact⟨by omega,h1.2⟩
def yW (x:Int) (len jT:Bool) (b:List UInt8) (l:List V3):List (List UInt8):=
 j6 (j5 b x)::(if len then [kH x.toNat l.length] else [])++J0 x ((b.length:Int)+j5 b x+(if len then x else 0)) l++(if jT then l.map fun v=>[qC x v] else [])
def d7 (x:Int) (len jT:Bool) (b:List UInt8) (l:List V3):Int:=b.length+j5 b x+(if len then x else 0)+x*l.length+(if jT then (l.length:Int) else 0)
theorem J7 {x:Int} (hx:isW x=true) (len jT:Bool) (b:List UInt8) (l:List V3):(b.length:Int)+(yW x len jT b l).flatten.length=d7 x len jT b l:=by
 have h1:=vR hx l ((b.length:Int)+j5 b x+(if len then x else 0))
 have h2:=V0 x l
 have hp:=kI hx
 unfold yW d7
 cases len<;>cases jT<;>simp only[List.flatten_append,List.flatten_cons,List.length_append,List.flatten_nil,List.length_nil,jX,j9,if_true,Bool.false_eq_true,if_false,List.cons_append,List.nil_append] at h1⊢<;>omega
theorem J8 {p:Int→Bool} (h:Ft.leastOf p≠0):p (Ft.leastOf p)=true:=by
 revert h
 unfold Ft.leastOf
 repeat' split
 all_goals simp_all
theorem Y3 {p:Int→Bool} (h:p 8=true):Ft.leastOf p≠0:=by
 unfold Ft.leastOf
 repeat' split
 all_goals simp_all
def ZG (n:Int) (v:V3):Prop:=jY v=0∧okV v∧(inlineB v.1=true→v.2.1≤8)∧(inlineB v.1=false→v.2.2≤n)
theorem VI {n:Int}:∀(l:List V3) (i:Int),(∀v∈l,ZG n v)→0≤n→0≤i→n+8+(i+l.length)*8 < 18446744073709551616→fitsL l n i 8=true
 | [],_,_,_,_,_=>rfl
 | v::r,i,h,hn,hi,hb=>by
  have hv:=h v (by simp)
  obtain⟨_,ho,h1,h2⟩:=hv
  have hc:((v::r).length:Int)=r.length+1:=by simp
  rw[hc] at hb
  have e:fitsL (v::r) n i 8=(fitsV v n i 8 && fitsL r n (i+1) 8):=rfl
  rw[e,VI r (i+1) (fun u hu=>h u (by simp[hu])) hn (by omega) (by omega),Bool.and_true]
  unfold fitsV fitsF
  cases hi2:inlineB v.1 with
  | true=>simp;exact h1 hi2
  | false=>
   have:=h2 hi2
   have h0:=ho.1
   simp only[Bool.false_eq_true,if_false,Bool.and_eq_true,decide_eq_true_eq,belowW]
   refine⟨this,?_⟩
   show (n+8 - 1) / 8*8+i*8 - v.2.2 < 2 ^ (8*(8:Int).toNat)
   have:(2:Int) ^ (8*(8:Int).toNat)=18446744073709551616:=by decide
   omega
theorem VJ {n ahead:Int} {l:List V3} (ha:ahead=0∨ahead=1) (hn:0≤n) (hn2:n≤1048576) (hl:l.length≤1048576) (h:∀v∈l,ZG n v) :
 allF l (0,0,0) n ahead=Ft.leastOf (fun v=>allAt l (0,0,0) n ahead v)∧allF l (0,0,0) n ahead≠0∧isW (allF l (0,0,0) n ahead)=true∧allAt l (0,0,0) n ahead (allF l (0,0,0) n ahead)=true:=by
 have hA:isA ahead:=by rcases ha with rfl | rfl<;>simp[isA]
 have e:allF l (0,0,0) n ahead=Ft.leastOf (fun v=>allAt l (0,0,0) n ahead v):=by
  unfold allF
  rw[if_pos ⟨⟨hn,by omega⟩,hA,hl⟩]
 have h8:allAt l (0,0,0) n ahead 8=true:=by
  unfold allAt
  rw[VI l ahead h hn (by omega) (by omega),Bool.and_true]
  unfold headF
  have:(ahead == 3)=false:=by rcases ha with rfl | rfl<;>rfl
  rw[this]
  have hb:belowW l.length 8=true:=by unfold belowW;rw[decide_eq_true_eq];have:(2:Int) ^ (8*(8:Int).toNat)=18446744073709551616:=(by decide);omega
  rw[hb]
  simp
 have h0:allF l (0,0,0) n ahead≠0:=by rw[e];exact Y3 h8
 refine⟨e,h0,KJ h0,?_⟩
 have:=J8 (p:=fun v=>allAt l (0,0,0) n ahead v) (by rw[← e];exact h0)
 rw[← e] at this
 exact this
theorem mN {most:Int} {T:V3→Int} {len jT:Bool} {kind:Int} {b:List UInt8} {l:List V3} (hT:∀v∈l,T v=0) (hb:b.length≤1048576) (hl:l.length≤1048576) (h:∀v∈l,ZG b.length v) :
 zE most T len jT kind 0 l (b,0)=(fun x=>(fun sf:St=>if sf.2≠0 then (((0,0,0),sf.2),sf) else (((kind,x,((zY most (j6 (j5 b x)::(if len then [kH x.toNat l.length] else [])) (b,0)).1.length:Int)),0),sf)) (zY most (yW x len jT b l) (b,0))) (allF l (0,0,0) b.length (if len then 1 else 0)):=by
 have hT0:zA T 0 l=0:=by
  clear hl h
  induction l with
  | nil=>rfl
  | cons v r ih=>
   show zA T (if (0:Int)=0 then T v else 0) r=0
   rw[if_pos rfl,hT v (by simp)]
   exact ih fun u hu=>hT u (by simp[hu])
 obtain⟨e,x0,hx,q8⟩:=VJ (n:=b.length) (ahead:=if len then 1 else 0) (by cases len<;>simp) (by omega) (by omega) hl h
 unfold zE
 rw[if_neg (by simpa using hT0)]
 simp only[if_neg x0]
 generalize allF l (0,0,0) b.length (if len then 1 else 0)=x at *
 have hw:=kI hx
 have hfit:fitsL l b.length (if len then 1 else 0) x=true:=by
  have h:=q8
  unfold allAt at h
  simp only[Bool.and_eq_true] at h
  exact h.2
 have j8:len=true→(l.length:Int) < 2 ^ (8*x.toNat):=by
  intro hl1
  subst hl1
  have h:=q8
  unfold allAt headF at h
  simp only[Bool.and_eq_true,belowW] at h
  have:=h.1.1
  simpa using this
 have hp:=bQ hx b
 have e1:jG most x (b,0)=zY most [j6 (j5 b x)] (b,0):=by
  unfold jG
  rw[if_pos hx]
  rfl
 have e2:(if len then jW most x l.length (jG most x (b,0)) else jG most x (b,0))=zY most (j6 (j5 b x)::(if len then [kH x.toNat l.length] else [])) (b,0):=by
  rw[e1]
  cases len with
  | false=>rfl
  | true=>
   rw[if_pos rfl,KK hx (j8 rfl)]
   rfl
 have e2':(if len=true then jW most x (↑l.length) (jG most x (b,0)) else jG most x (b,0))=zY most (j6 (j5 b x)::(if len then [kH x.toNat l.length] else [])) (b,0):=e2
 rw[e2']
 have e3:(if jT=true then kP most x l (jU most x l (zY most (j6 (j5 b x)::(if len then [kH x.toNat l.length] else [])) (b,0))) else jU most x l (zY most (j6 (j5 b x)::(if len then [kH x.toNat l.length] else [])) (b,0)))=zY most (yW x len jT b l) (b,0):=by
  have e4:jU most x l (zY most (j6 (j5 b x)::(if len then [kH x.toNat l.length] else [])) (b,0))=zY most (J0 x ((b.length:Int)+j5 b x+(if len then x else 0)) l) (zY most (j6 (j5 b x)::(if len then [kH x.toNat l.length] else [])) (b,0)):=by
   by_cases hf:(b.length:Int)+(j6 (j5 b x)::(if len then [kH x.toNat l.length] else [])).flatten.length≤most
   ·rw[JH _ _ hf]
    have hl2:((b++(j6 (j5 b x)::(if len then [kH x.toNat l.length] else [])).flatten).length:Int)=(b.length:Int)+j5 b x+(if len then x else 0):=by
     cases len<;>simp[jX,j9]<;>omega
    rw[K2 hx l _ (by
     rw[hl2]
     refine QW hx l (if len then 1 else 0) _ ?_ (by cases len<;>simp) hfit
     rw[hp]
     cases len<;>simp),hl2]
   ·by_cases hb2:(b.length:Int)≤most
    ·have h5:(zY most (j6 (j5 b x)::(if len then [kH x.toNat l.length] else [])) (b,0)).2≠0:=by rw[(bP _ b hb2 hf).1];decide
     rw[JB h5,qQ h5]
    ·have h5:zY most (j6 (j5 b x)::(if len then [kH x.toNat l.length] else [])) (b,0)=(b,5):=by
      show zY most _ (kA most (j6 (j5 b x)) (b,0))=_
      rw[YB (by rw[jX];omega),qQ (s:=(b,5)) (show (5:Int)≠0 by decide)]
     rw[h5,JB (s:=(b,5)) (show (5:Int)≠0 by decide),qQ (s:=(b,5)) (show (5:Int)≠0 by decide)]
  rw[e4]
  unfold yW
  rw[JC,JC]
  cases jT with
  | false=>rfl
  | true=>
   rw[if_pos rfl,if_pos rfl,ZV]
 rw[e3]
theorem oC {most:Int} {T:V3→Int} {len jT:Bool} {kind:Int} {b:List UInt8} {l:List V3} {x:Int} (hT:∀v∈l,T v=0) (hb:b.length≤1048576) (hl:l.length≤1048576) (h:∀v∈l,ZG b.length v)
 (hx:allF l (0,0,0) b.length (if len then 1 else 0)=x) (hr:d7 x len jT b l≤most):zE most T len jT kind 0 l (b,0)=(((kind,x,(b.length:Int)+j5 b x+(if len then x else 0)),0),(b++(yW x len jT b l).flatten,0)):=by
 obtain⟨_,_,hw,_⟩:=VJ (n:=b.length) (ahead:=if len then 1 else 0) (by cases len<;>simp) (by omega) (by omega) hl h
 rw[mN hT hb hl h]
 simp only[hx]
 rw[hx] at hw
 have hwp:=kI hw
 have hpl:=J7 hw len jT b l
 rw[JH (yW x len jT b l) b (by omega)]
 have hmul:0≤x*(l.length:Int):=Int.mul_nonneg (by omega) (by omega)
 rw[if_neg (by simp),JH _ b (by unfold d7 at hr;cases len<;>cases jT<;>simp[jX,j9] at hr⊢<;>omega)]
 have hl2:((b++(j6 (j5 b x)::(if len then [kH x.toNat l.length] else [])).flatten).length:Int)=(b.length:Int)+j5 b x+(if len then x else 0):=by
  cases len<;>simp[jX,j9]<;>omega
 rw[hl2]
end Go.Proofs.YtjnpcddbgfmpcaaGreatDoor
namespace Go.Proofs.YtjnpcddbgfmpcaaGreatDoor
open Go Go.ChangeShapes Go.WideShapes Go.ChangeAt Go.RowKit Go.Joins Go.Deep
section
variable {H:Type} {enc:TypeId × Value→H} {W:World} {base:Nat} {v:Value} {d:DataW H} {p:List MemPlace}
end
end Go.Proofs.YtjnpcddbgfmpcaaGreatDoor
namespace Go.Proofs.YtjnpcddbgfmpcaaGreatDoor
open Go Go.ChangeShapes Go.WideShapes Go.ChangeAt Go.RowKit Go.Joins
open Go.Proofs.YtjnpcddbgfmpcaaGreatDoor.Ft (V3 vV okV ValsAt inlineB legalB packF codeF typedF allF allAt headF fitsL fitsV fitsF belowW isA)
theorem iH (n:Int):0≤IntKind.u64.wrap n∧IntKind.u64.wrap n≤18446744073709551615:=by
 rw[IntKind.wrap_u64];omega
theorem mO {a:Int} {l:List V3} (h:∀v∈l,ZG a v):∀v∈l,jY v=0:=fun v hv=>(h v hv).1
theorem iI {x:Int} (hx:isW x=true) (len jT:Bool) (b:List UInt8) (l:List V3):d7 x len jT b l≤b.length+15+9*l.length:=by
 have hw:=kI hx
 have hp:=(QH (l:=b) hx).1
 have hm:x*(l.length:Int)≤8*l.length:=Int.mul_le_mul_of_nonneg_right hw.2 (by omega)
 unfold d7
 cases len<;>cases jT<;>simp only[if_true,Bool.false_eq_true,if_false]<;>omega
end Go.Proofs.YtjnpcddbgfmpcaaGreatDoor
namespace Go.Proofs.YtjnpcddbgfmpcaaGreatDoor
open Go Go.ChangeShapes Go.WideShapes Go.ChangeAt Go.RowKit Go.Joins
open Go.Proofs.YtjnpcddbgfmpcaaGreatDoor.Ft (V3 vV okV ValsAt inlineB legalB packF codeF typedF allF allAt headF fitsL fitsV fitsF belowW isA unpackF)
theorem o9 (n u:Nat):kH (n+1) u=UInt8.ofNat (u % 256)::kH n (u / 256):=by
 unfold kH
 rw[List.range_succ_eq_map,List.map_cons,List.map_map]
 simp only[Nat.pow_zero,Nat.div_one]
 congr 1
 apply List.map_congr_left
 intro i _
 simp only[Function.comp,Nat.succ_eq_add_one]
 rw[Nat.pow_succ,Nat.mul_comm (256 ^ i) 256,← Nat.div_div_eq_div_mul]
theorem iJ:∀(n u:Nat),u < 256 ^ n→leF (kH n u)=u
 | 0,u,h=>by
  have:u=0:=by simpa using h
  subst this
  simp[kH,leF]
 | n+1,u,h=>by
  rw[o9]
  show ((UInt8.ofNat (u % 256)).toNat:Int)+256*leF (kH n (u / 256))=u
  rw[iJ n (u / 256) (by rw[Nat.pow_succ] at h;omega),UInt8.toNat_ofNat']
  omega
theorem pow_256 {x:Int} (hx:isW x=true):(256:Nat) ^ x.toNat=(2 ^ (8*x.toNat):Int):=by
 rcases kJ hx with rfl|rfl|rfl|rfl<;>decide
theorem JU {X A C:List UInt8} {x u at_:Int} (hx:isW x=true) (hX:X=A++kH x.toNat u.toNat++C) (hA:(A.length:Int)=at_) (h0:0≤u) (h1:u < 2 ^ (8*x.toNat)):kC X at_ x=(u,0):=by
 have hp:=kI hx
 subst hX
 unfold kC
 rw[if_pos hx,if_neg (by rw[List.length_append,List.length_append,j9];omega)]
 have e:(((A++kH x.toNat u.toNat++C).drop at_.toNat).take x.toNat)=kH x.toNat u.toNat:=by
  rw[← hA,show ((A.length:Int)).toNat=A.length by omega,List.append_assoc,List.drop_left,List.take_left' (j9 _ _)]
 rw[e,iJ _ _ (by have:=pow_256 hx;omega)]
 rw[show (u.toNat:Int)=u by omega]
theorem fR {x:Int} (hx:isW x=true):∀(l:List V3) (p:Int) (k:Nat) (v:V3),l[k]? = some v→∃A C,(J0 x p l).flatten=A++kH x.toNat (JD x (p+k*x) v).toNat++C∧(A.length:Int)=k*x
 | [],_,_,_,h=>by simp at h
 | u::r,p,0,v,h=>by
  simp at h
  subst h
  exact⟨[],(J0 x (p+x) r).flatten,by simp[J0],by simp⟩
 | u::r,p,k+1,v,h=>by
  have hp:=kI hx
  obtain⟨A,C,h1,h2⟩:=fR hx r (p+x) k v (by simpa using h)
  refine⟨kH x.toNat (JD x p u).toNat++A,C,?_,?_⟩
  ·have e:p+x+(k:Int)*x=p+((k+1:Nat):Int)*x:=by rw[Int.natCast_add,Int.add_mul];simp;omega
   rw[e] at h1
   simp only[J0,List.flatten_cons,h1,List.append_assoc]
  ·rw[List.length_append,j9,Int.natCast_add,h2,Int.natCast_add,Int.add_mul]
   simp;omega
theorem QX (x:Int) (l:List V3):(l.map fun v=>[qC x v]).flatten=l.map (qC x):=by
 induction l with
 | nil=>rfl
 | cons v r ih=>simp only[List.map_cons,List.flatten_cons,ih];rfl
theorem VK:∀(l:List V3) (at_ i x:Int) (k:Nat) (v:V3),fitsL l at_ i x=true→l[k]? = some v→fitsV v at_ (i+k) x=true
 | [],_,_,_,_,_,_,h=>by simp at h
 | u::r,at_,i,x,0,v,hf,h=>by
  have:(fitsV u at_ i x && fitsL r at_ (i+1) x)=true:=hf
  simp at this h
  subst h
  simpa using this.1
 | u::r,at_,i,x,k+1,v,hf,h=>by
  have:(fitsV u at_ i x && fitsL r at_ (i+1) x)=true:=hf
  simp only[Bool.and_eq_true] at this
  have h2:=VK r at_ (i+1) x k v this.2 (by simpa using h)
  rw[show i+((k+1:Nat):Int)=i+1+k by omega]
  exact h2
theorem bR {x:Int}:∀(l:List V3) (p:Int) (k:Nat) (v:V3),fitE x p l→l[k]? = some v→0≤JD x (p+k*x) v∧JD x (p+k*x) v < 2 ^ (8*x.toNat)
 | [],_,_,_,_,h=>by simp at h
 | u::r,p,0,v,hf,h=>by
  simp at h
  subst h
  simpa using hf.1
 | u::r,p,k+1,v,hf,h=>by
  have h2:=bR r (p+x) k v hf.2 (by simpa using h)
  have e:p+x+(k:Int)*x=p+((k+1:Nat):Int)*x:=by rw[Int.natCast_add,Int.add_mul];simp;omega
  rw[e] at h2
  exact h2
theorem Y4 {x:Int} {v:V3} (hx:isW x=true) (hl:jY v=0):unpackF (qC x v).toNat=(v.1,if inlineB v.1 then x else v.2.1,0):=by
 obtain⟨t,wd,n⟩:=v
 unfold jY at hl
 by_cases hlb:legalB t=true
 ·have hww:isW (if inlineB t then x else wd)=true:=by
   split
   ·exact hx
   ·rename_i hn
    rw[if_pos hlb,if_neg hn] at hl
    by_cases h:isW wd=true
    ·exact h
    ·rw[if_neg h] at hl;cases hl
  unfold qC
  generalize (if inlineB t then x else wd)=y at *
  have ht:0≤t∧t < 37:=by
   by_cases h0:t < 0
   ·unfold legalB at hlb;simp[Ft.kindOf,h0] at hlb
   ·by_cases h1:t < 37
    ·exact⟨by omega,h1⟩
    ·exfalso
     unfold legalB Ft.kindOf at hlb
     rw[if_neg h0] at hlb
     have:Ft.kindRow t.toNat=(0,0,0):=by
      have hm:37≤t.toNat:=by omega
      generalize t.toNat=m at hm
      unfold Ft.kindRow
      split<;>first | rfl | omega
     rw[this] at hlb
     simp at hlb
  have hc:∃c:Nat,c < 4∧codeF y=some (c:Int)∧y=2 ^ c:=by
   rcases kJ hww with rfl|rfl|rfl|rfl
   ·exact⟨0,by omega,rfl,rfl⟩
   ·exact⟨1,by omega,rfl,rfl⟩
   ·exact⟨2,by omega,rfl,rfl⟩
   ·exact⟨3,by omega,rfl,rfl⟩
  obtain⟨c,hc4,hcode,hy⟩:=hc
  have e:(packF t y).1=4*t+c:=by
   unfold packF
   rw[if_pos hlb,hcode]
  rw[e,UInt8.toNat_ofNat',show (4*t+(c:Int)).toNat % 2 ^ 8=4*t.toNat+c by omega]
  unfold unpackF
  rw[show (4*t.toNat+c) / 4=t.toNat by omega,show (4*t.toNat+c) % 4=c by omega,show ((t.toNat:Nat):Int)=t by omega,if_pos hlb,hy]
 ·rw[if_neg hlb] at hl;cases hl
theorem mP {X:List UInt8} {at_ x u:Int} (h:kC X at_ x=(u,0)):KE X at_ x=(sgnF u x,0):=by
 unfold KE
 rw[h]
 rfl
end Go.Proofs.YtjnpcddbgfmpcaaGreatDoor
namespace Go.Proofs.YtjnpcddbgfmpcaaGreatDoor
open Go Go.ChangeShapes Go.WideShapes Go.ChangeAt Go.RowKit Go.Joins
open Go.Proofs.YtjnpcddbgfmpcaaGreatDoor.Ft (V3 vV okV ValsAt inlineB legalB packF codeF typedF allF)
section
variable {w0 w w':World} {p q:Nat} {o o':Option Nat} {most most':Int} {s t s' t':St}
end
end Go.Proofs.YtjnpcddbgfmpcaaGreatDoor
