/-
  Texts of the proof.
-/
import Derived.Test.YtjnpcddbgfmpcaaGreatDoorBListsPBM
import Derived.Test.YtjnpcddbgfmpcaaGreatDoorBListsPBK
set_option linter.unusedVariables false
set_option linter.unusedSimpArgs false
namespace Go.Proofs.YtjnpcddbgfmpcaaGreatDoor
open Go Go.ChangeShapes Go.WideShapes Go.ChangeAt Go.RowKit Go.Joins
open Go.Proofs.YtjnpcddbgfmpcaaGreatDoor.Ft (V3 vV okV ValsAt inlineB legalB packF codeF typedF allF)
def ZR (v:V3):List Value:=[.int .i64 v.1,.int .i64 v.2.1,.int .u64 v.2.2]
def kJ (l:List V3):List Value:=l.flatMap ZR
theorem v6 (l:List V3):(kJ l).length=l.length*3:=by
 induction l with
 | nil=>rfl
 | cons v r ih=>
  have:kJ (v::r)=ZR v++kJ r:=rfl
  rw[this,List.length_append,ih,List.length_cons]
  show 3+_=_
  omega
theorem ZE (l m:List V3):kJ (l++m)=kJ l++kJ m:=by simp[kJ]
theorem QU (l:List V3) (i:Nat) (v:V3) (h:l[i]? = some v):(kJ l)[i*3]? = some (.int .i64 v.1)∧(kJ l)[i*3+1]? = some (.int .i64 v.2.1)∧(kJ l)[i*3+2]? = some (.int .u64 v.2.2):=by
 induction l generalizing i with
 | nil=>simp at h
 | cons u r ih=>
  have e:kJ (u::r)=.int .i64 u.1::.int .i64 u.2.1::.int .u64 u.2.2::kJ r:=rfl
  rw[e]
  cases i with
  | zero=>simp at h;subst h;simp
  | succ i=>
   have h2:=ih i (by simpa using h)
   rw[show (i+1)*3=i*3+1+1+1 by omega,show i*3+1+1+1+1=(i*3+1)+1+1+1 by omega,show i*3+1+1+1+2=(i*3+2)+1+1+1 by omega]
   simpa only [List.getElem?_cons_succ] using h2
def jP (w:World) (B:Nat) (v:Value) (l:List V3):Prop:=w.ownsRow B 65 3 v l.length (kJ l)
theorem jP.vals {w:World} {B:Nat} {v:Value} {l:List V3} (h:jP w B v l):ValsAt w v l:=by
 have h0:=h
 obtain⟨_,h2⟩:=h
 rcases h2 with ⟨rfl,hn⟩|⟨g,cap,cur,rfl,_,_,hn,_⟩
 ·have:l=[]:=List.length_eq_zero_iff.1 hn
  subst this
  exact⟨none,0,rfl,fun i x hx=>by simp at hx⟩
 ·refine⟨some ⟨g,0,none⟩,cap,rfl,fun i x hx=>⟨g,0,rfl,?_⟩⟩
  have hi:=(List.getElem?_eq_some_iff.1 hx).1
  obtain⟨e0,e1,e2⟩:=QU l i x hx
  have hc:=World.ownsRow.cells h0 rfl
  have a:∀j,(⟨g,0,none⟩:Addr).add j=⟨g,0+j,none⟩:=by
   intro j
   unfold Addr.add
   split
   ·rename_i h;subst h;rfl
   ·rfl
  have c0:=hc _ _ e0
  have c1:=hc _ _ e1
  have c2:=hc _ _ e2
  rw[a] at c0 c1 c2
  exact⟨c0,c1,c2⟩
theorem Tryz.infoVal:(Tryz.prog.info? 65).map (fun i=>(i.zero,i.size,i.bytes))=some (some (.agg #[.int .i64 0,.int .i64 0,.int .u64 0]),3,24):=by kernel_rfl
theorem d8:∃i0,Tryz.prog.info? 65=some i0∧i0.zero=some (.agg #[.int .i64 0,.int .i64 0,.int .u64 0])∧i0.size=3∧i0.bytes=24:=by
 have h:=Tryz.infoVal
 cases hq:Tryz.prog.info? 65 with
 | none=>simp[hq] at h
 | some i=>simp[hq] at h;exact⟨i,rfl,h.1,h.2.1,h.2.2⟩
theorem bN {w:World} {ad:Addr} {cap:Nat} {l:List V3} (h:ValsAt w (.slice (some ad) l.length cap) l):∀j u,(kJ l)[j]? = some u→w.cell? (ad.add j)=some u:=by
 obtain⟨a0,c0,e,hc⟩:=h
 cases e
 intro j u hj
 have hjl:j < l.length*3:=by rw[← v6];exact (List.getElem?_eq_some_iff.1 hj).1
 have hd:j / 3 < l.length:=by omega
 have hq:j=j / 3*3∨j=j / 3*3+1∨j=j / 3*3+2:=by omega
 obtain⟨x,hx⟩:∃x,l[j / 3]? = some x:=⟨_,List.getElem?_eq_getElem hd⟩
 obtain⟨b,off,e,d0,d1,d2⟩:=hc (j / 3) x hx
 cases e
 obtain⟨e0,e1,e2⟩:=QU l (j / 3) x hx
 generalize j / 3=q at *
 have:(⟨b,off,none⟩:Addr).add j=⟨b,off+j,none⟩:=by
  unfold Addr.add
  split
  ·rename_i h;subst h;rfl
  ·rfl
 rw[this]
 rcases hq with h|h|h
 ·rw[h] at hj;rw[e0] at hj;cases hj;rw[h];exact d0
 ·rw[h] at hj;rw[e1] at hj;cases hj;rw[h];exact d1
 ·rw[h] at hj;rw[e2] at hj;cases hj;rw[h];exact d2
theorem QV (l:List V3):∀u∈kJ l,u.oneCell'=true:=by
 intro u hu
 simp only[kJ,List.mem_flatMap,ZR,List.mem_cons,List.not_mem_nil,or_false] at hu
 obtain⟨x,_,rfl|rfl|rfl⟩:=hu<;>rfl
theorem zV {ops:Array Oper} {rest:List Oper} {o:Oper} {a:Act} {w:World} {Q:Exit→Act→World→Prop} (hgd:o.guard=none) (s x:Operand)
 (ho:o.op=.call {callee:=.builtin .append,args:=#[s,x],argTypes:=#[57,57]}) (B:Nat) (v:Value) (l:List V3) (hs:a.eval s=v) (jZ:jP w B v l)
 (sv:Value) (l2:List V3) (hx:a.eval x=sv) (hsv:ValsAt w sv l2) (kO:∀c,sv=.slice none 0 c→c=0) (kE:l.length+l2.length≤1048576) (hB:B≤w.heap.size)
 (h:∀v' w',jP w' B v' (l++l2)→w.grownBy w' v.ownBlock→zQ w v.ownBlock v'.ownBlock→wpList Tryz.prog ops Q rest (a.put o.dst v') w'):wpList Tryz.prog ops Q (o::rest) a w:=by
 obtain⟨i0,hi,hz0,hz1,hz2⟩:=d8
 have hsv0:=hsv
 obtain⟨sa,cap,rfl,hc⟩:=hsv
 cases sa with
 | none=>
  have h0:l2=[]:=by
   cases l2 with
   | nil=>rfl
   | cons y r=>obtain⟨b,off,e,_⟩:=hc 0 y rfl;cases e
  subst h0
  have:=kO cap rfl
  subst this
  refine wpList_append_own_none hgd s x 57 ho B 65 i0 3 Tryz.underlying57 hi v l.length _ hs jZ hx ?_
  exact h v w (by rw[List.append_nil];exact jZ) ⟨rfl,rfl,rfl,Nat.le_refl _,fun _ _ _=>rfl⟩ (zQ.refl _ _)
 | some ad=>
  obtain⟨v',w',hr,h2,h3,h4⟩:=yR (P:=Tryz.prog) w B 57 o.type 65 i0 (.agg #[.int .i64 0,.int .i64 0,.int .u64 0]) 3 24 Tryz.underlying57 hi hz0 hz1 hz2 rfl (by decide) v l.length _ jZ ad l2.length cap (kJ l2) (v6 l2) (bN hsv0) (QV l2) (by unfold maxLen;omega) (by omega) hB
  refine wpList_plain hgd fun _ hK=>Lib.wp_append_run w s x 57 57 ho v _ hs hx v' w' hr (hK _ _ (h v' w' ?_ h3 h4))
  unfold jP
  rw[List.length_append,ZE]
  exact h2
theorem yQ {w w':World} {B:Nat} {v:Value} {l:List V3} (h:jP w B v l) (hg:jA w w'):jP w' B v l:=Moved.owns (Moved.of_grew (S:=fun _=>False) hg) h (fun _ _ h=>h)
theorem vT (w:World) (x:V3):ValsAt (w.alloc (.cells #[.int .i64 x.1,.int .i64 x.2.1,.int .u64 x.2.2] 65)) (.slice (some ⟨w.heap.size,0,none⟩) 1 1) [x]:=by
 have h:=heap_alloc_new w (.cells #[.int .i64 x.1,.int .i64 x.2.1,.int .u64 x.2.2] 65)
 refine⟨_,1,rfl,fun i y hy=>?_⟩
 have hi:i=0:=by have:=(List.getElem?_eq_some_iff.1 hy).1;simp at this;omega
 subst hi
 simp at hy
 subst hy
 exact⟨_,_,rfl,jK h 0 _ rfl,jK h 1 _ rfl,jK h 2 _ rfl⟩
theorem kC {w:World} {B:Nat} {v:Value} {l:List V3} (h:jP w B v l):∃a c,v=.slice a l.length c∧(a=none→c=0):=by
 rcases h.2 with ⟨rfl,hn⟩|⟨g,cap,cur,rfl,_,_,hn,_⟩
 ·exact⟨none,0,by rw[hn],fun _=>rfl⟩
 ·exact⟨_,cap,rfl,fun h=>by cases h⟩
theorem ZS {w wr w':World} {v:Value} {l:List V3} (h:jP wr w.heap.size v l) (hg:jA w wr) (hgr:wr.grownBy w' v.ownBlock):jA w w':=by
 have hgr2:Moved (fun k=>some k=v.ownBlock) wr w':=Moved.of_grown hgr
 refine⟨hgr2.os.trans hg.os,hgr2.tape.trans hg.tape,hgr2.output.trans hg.output,Nat.le_trans hg.size hgr2.size,fun k hk=>?_⟩
 refine (hgr2.block k (Nat.lt_of_lt_of_le hk hg.size) fun e=>?_).trans (hg.block k hk)
 rcases h.2 with ⟨rfl,hn⟩|⟨g,cap,cur,rfl,hb,_,_⟩
 ·cases e
 ·have:k=g:=by injection e
  omega
section
variable {lv:Value} {l:List V3} {most:Int} {s:St}
end
end Go.Proofs.YtjnpcddbgfmpcaaGreatDoor
namespace Go.Proofs.YtjnpcddbgfmpcaaGreatDoor
open Go Go.ChangeShapes Go.WideShapes Go.ChangeAt Go.RowKit Go.Joins
open Go.Proofs.YtjnpcddbgfmpcaaGreatDoor.Ft (V3 vV okV ValsAt inlineB legalB packF codeF typedF allF allAt headF fitsL fitsV fitsF belowW isA)
section
variable {most x u:Int} {y:List UInt8} {s:St} {v:V3}
theorem JT (h:s.2≠0):j6 most y s=s:=by
 obtain⟨b,e⟩:=s
 show (ZK b y most e,QF b y most e)=(b,e)
 unfold ZK QF
 rw[if_neg (fun k=>h k.1),if_neg (fun k=>h k.1)]
theorem V0 (z:Int) (h:s.2≠0):YO z s=s:=by
 obtain⟨b,e⟩:=s
 show (b,kG e z)=(b,e)
 unfold kG
 rw[if_neg h]
theorem bO (h:s.2≠0):jX most x u s=s:=by
 unfold jX;split
 ·split
  ·exact JT h
  ·exact V0 _ h
 ·exact V0 _ h
theorem iF (h:s.2≠0):zZ most x s v=s:=by
 unfold zZ;split<;>exact bO h
theorem JD (h:s.2≠0):∀l:List V3,jT most x l s=s
 | []=>rfl
 | v::r=>by
  show jT most x r (zZ most x s v)=s
  rw[iF h]
  exact JD h r
end
theorem YE {most:Int} {l y:List UInt8} (hf:¬(l.length:Int)+y.length≤most):j6 most y (l,0)=(l,5):=by
 show (ZK l y most 0,QF l y most 0)=_
 unfold ZK QF
 rw[if_neg (fun k=>hf (by have:=k.2;omega)),if_pos ⟨rfl,fun k=>hf (by omega)⟩]
def z6 (most:Int):List (List UInt8)→St→St
 | [],s=>s
 | y::r,s=>z6 most r (j6 most y s)
theorem JE (most:Int):∀(ys zs:List (List UInt8)) (s:St),z6 most (ys++zs) s=z6 most zs (z6 most ys s)
 | [],_,_=>rfl
 | y::r,zs,s=>JE most r zs (j6 most y s)
theorem qS {most:Int} {s:St} (h:s.2≠0):∀ys,z6 most ys s=s
 | []=>rfl
 | y::r=>by
  show z6 most r (j6 most y s)=s
  rw[JT h]
  exact qS h r
theorem JJ {most:Int}:∀(ys:List (List UInt8)) (b:List UInt8),(b.length:Int)+ys.flatten.length≤most→z6 most ys (b,0)=(b++ys.flatten,0)
 | [],b,_=>by simp[z6]
 | y::r,b,h=>by
  have h2:(b.length:Int)+y.length+r.flatten.length≤most:=by simp at h⊢;omega
  show z6 most r (j6 most y (b,0))=_
  rw[q7 most b y (by omega),JJ r (b++y) (by simp at h2⊢;omega)]
  simp
theorem bP {most:Int}:∀(ys:List (List UInt8)) (b:List UInt8),(b.length:Int)≤most→¬(b.length:Int)+ys.flatten.length≤most→(z6 most ys (b,0)).2=5∧((z6 most ys (b,0)).1.length:Int)≤most
 | [],b,hb,h=>absurd (by simpa using hb) h
 | y::r,b,hb,h=>by
  show (z6 most r (j6 most y (b,0))).2=5∧((z6 most r (j6 most y (b,0))).1.length:Int)≤most
  by_cases hy:(b.length:Int)+y.length≤most
  ·rw[q7 most b y hy]
   exact bP r (b++y) (by simpa using hy) (by simp at h⊢;omega)
  ·rw[YE hy,qS (s:=(b,5)) (show (5:Int)≠0 by decide)]
   exact⟨rfl,hb⟩
def JF (x p:Int) (v:V3):Int:=if inlineB v.1 then k7 v.2.2 x else p - v.2.2
def J1 (x:Int):Int→List V3→List (List UInt8)
 | _,[]=>[]
 | p,v::r=>kI x.toNat (JF x p v).toNat::J1 x (p+x) r
def fitE (x:Int):Int→List V3→Prop
 | _,[]=>True
 | p,v::r=>(0≤JF x p v∧JF x p v < 2 ^ (8*x.toNat))∧fitE x (p+x) r
theorem nN {x:Int} (hx:isW x=true):(2:Int) ^ (8*x.toNat)≤18446744073709551616:=by
 rcases kH hx with rfl|rfl|rfl|rfl<;>decide
theorem kN {x:Int} (hx:isW x=true):1≤x∧x≤8:=by
 rcases kH hx with rfl|rfl|rfl|rfl<;>decide
theorem KI {most x u:Int} {s:St} (hx:isW x=true) (h1:u < 2 ^ (8*x.toNat)):jX most x u s=j6 most (kI x.toNat u.toNat) s:=by
 unfold jX
 rw[if_pos hx,if_pos (by unfold VB;exact decide_eq_true h1)]
theorem d9 {most x:Int} {b:List UInt8} {v:V3} (hx:isW x=true) (h:0≤JF x b.length v∧JF x b.length v < 2 ^ (8*x.toNat)):zZ most x (b,0) v=j6 most (kI x.toNat (JF x b.length v).toNat) (b,0):=by
 have hp:=nN hx
 unfold zZ
 unfold JF at h⊢
 split
 ·rename_i hi
  rw[if_pos hi] at h
  exact KI hx h.2
 ·rename_i hi
  rw[if_neg hi] at h
  have e:IntKind.u64.wrap ((b.length:Int) - v.2.2)=(b.length:Int) - v.2.2:=by rw[IntKind.wrap_u64];omega
  show jX most x (IntKind.u64.wrap ((b.length:Int) - v.2.2)) (b,0)=_
  rw[e]
  exact KI hx h.2
theorem K5 {most x:Int} (hx:isW x=true):∀(l:List V3) (b:List UInt8),fitE x b.length l→jT most x l (b,0)=z6 most (J1 x b.length l) (b,0)
 | [],b,_=>rfl
 | v::r,b,h=>by
  have hp:=kN hx
  show jT most x r (zZ most x (b,0) v)=z6 most (J1 x ((b.length:Int)+x) r) (j6 most (kI x.toNat (JF x b.length v).toNat) (b,0))
  rw[d9 hx h.1]
  by_cases hf:(b.length:Int)+(kI x.toNat (JF x b.length v).toNat).length≤most
  ·rw[q7 _ _ _ hf]
   have e:(b.length:Int)+x=((b++kI x.toNat (JF x b.length v).toNat).length:Int):=by rw[List.length_append,j7];omega
   have h2:=h.2
   rw[e] at h2⊢
   exact K5 hx r _ h2
  ·rw[YE hf,JD (s:=(b,5)) (show (5:Int)≠0 by decide),qS (s:=(b,5)) (show (5:Int)≠0 by decide)]
theorem ZT {most x:Int}:∀(l:List V3) (s:St),kP most x l s=z6 most (l.map fun v=>[qD x v]) s
 | [],s=>rfl
 | v::r,s=>by
  show kP most x r (fR most x s v)=z6 most (r.map fun v=>[qD x v]) (j6 most [qD x v] s)
  have:fR most x s v=j6 most [qD x v] s:=by unfold fR;rw[show jO [⟨#[qD x v]⟩]=[qD x v] by simp[jO]]
  rw[this]
  exact ZT r _
theorem bQ {x:Int} (hx:isW x=true) (b:List UInt8):(b.length:Int)+j9 b x=((b.length:Int)+x - 1) / x*x:=by
 unfold j9
 rcases kH hx with rfl|rfl|rfl|rfl<;>omega
theorem vU {x:Int} (hx:isW x=true):∀(l:List V3) (p:Int),((J1 x p l).flatten.length:Int)=x*l.length
 | [],p=>by simp[J1]
 | v::r,p=>by
  have h:=vU hx r (p+x)
  have hp:=kN hx
  simp only[J1,List.flatten_cons,List.length_append,j7,List.length_cons]
  have e:x*((r.length+1:Nat):Int)=x*r.length+x:=by rw[Int.natCast_add,Int.mul_add];simp
  rw[e]
  omega
theorem V1 (x:Int) (l:List V3):(l.map fun v=>[qD x v]).flatten.length=l.length:=by
 induction l with
 | nil=>rfl
 | cons v r ih=>simp only[List.map_cons,List.flatten_cons,List.length_append,List.length_cons,List.length_nil,ih];omega
theorem rT (n x:Int):0≤k7 n x∧k7 n x < 2 ^ (8*x.toNat):=by
 unfold k7
 have h:(0:Int) < 2 ^ (8*x.toNat):=Int.pow_pos (by decide)
 exact⟨Int.emod_nonneg _ (by omega),Int.emod_lt_of_pos _ h⟩
theorem QW {x at_:Int} (hx:isW x=true):∀(l:List V3) (i p:Int),p=(at_+x - 1) / x*x+i*x→0≤i→fitsL l at_ i x=true→fitE x p l
 | [],_,_,_,_,_=>trivial
 | v::r,i,p,hp,hi,h=>by
  have hw:=kN hx
  have h1:fitsV v at_ i x=true:=by
   have:(fitsV v at_ i x && fitsL r at_ (i+1) x)=true:=h
   simp at this;exact this.1
  have h2:fitsL r at_ (i+1) x=true:=by
   have:(fitsV v at_ i x && fitsL r at_ (i+1) x)=true:=h
   simp at this;exact this.2
  have hs:p+x=(at_+x - 1) / x*x+(i+1)*x:=by rw[hp,Int.add_mul];omega
  refine⟨?_,QW hx r (i+1) (p+x) hs (by omega) h2⟩
  unfold JF
  split
  ·exact rT _ _
  ·rename_i hn
   unfold fitsV fitsF at h1
   rw[if_neg hn] at h1
   simp only[Bool.and_eq_true,decide_eq_true_eq,belowW] at h1
   have hge:at_≤(at_+x - 1) / x*x:=by rcases kH hx with rfl | rfl | rfl | rfl<;>omega
   have hix:0≤i*x:=Int.mul_nonneg hi (by omega)
   rw[hp]
   exact⟨by omega,h1.2⟩
def yD (x:Int) (len jS:Bool) (b:List UInt8) (l:List V3):List (List UInt8):=
 kA (j9 b x)::(if len then [kI x.toNat l.length] else [])++J1 x ((b.length:Int)+j9 b x+(if len then x else 0)) l++(if jS then l.map fun v=>[qD x v] else [])
def ZU (x:Int) (len jS:Bool) (b:List UInt8) (l:List V3):Int:=b.length+j9 b x+(if len then x else 0)+x*l.length+(if jS then (l.length:Int) else 0)
theorem qK {x:Int} (hx:isW x=true) (len jS:Bool) (b:List UInt8) (l:List V3):(b.length:Int)+(yD x len jS b l).flatten.length=ZU x len jS b l:=by
 have h1:=vU hx l ((b.length:Int)+j9 b x+(if len then x else 0))
 have h2:=V1 x l
 have hp:=kN hx
 unfold yD ZU
 cases len<;>cases jS<;>simp only[List.flatten_append,List.flatten_cons,List.length_append,List.flatten_nil,List.length_nil,jY,j7,if_true,Bool.false_eq_true,if_false,List.cons_append,List.nil_append] at h1⊢<;>omega
theorem J7 {p:Int→Bool} (h:Ft.leastOf p≠0):p (Ft.leastOf p)=true:=by
 revert h
 unfold Ft.leastOf
 repeat' split
 all_goals simp_all
theorem Y2 {p:Int→Bool} (h:p 8=true):Ft.leastOf p≠0:=by
 unfold Ft.leastOf
 repeat' split
 all_goals simp_all
def JG (n:Int) (v:V3):Prop:=jW v=0∧okV v∧(inlineB v.1=true→v.2.1≤8)∧(inlineB v.1=false→v.2.2≤n)
theorem VH {n:Int}:∀(l:List V3) (i:Int),(∀v∈l,JG n v)→0≤n→0≤i→n+8+(i+l.length)*8 < 18446744073709551616→fitsL l n i 8=true
 | [],_,_,_,_,_=>rfl
 | v::r,i,h,hn,hi,hb=>by
  have hv:=h v (by simp)
  obtain⟨_,ho,h1,h2⟩:=hv
  have hc:((v::r).length:Int)=r.length+1:=by simp
  rw[hc] at hb
  have e:fitsL (v::r) n i 8=(fitsV v n i 8 && fitsL r n (i+1) 8):=rfl
  rw[e,VH r (i+1) (fun u hu=>h u (by simp[hu])) hn (by omega) (by omega),Bool.and_true]
  unfold fitsV fitsF
  cases hi2:inlineB v.1 with
  | true=>simp;exact h1 hi2
  | false=>
   have:=h2 hi2
   have h0:=ho.1
   simp only[Bool.false_eq_true,if_false,Bool.and_eq_true,decide_eq_true_eq,belowW]
   refine⟨this,?_⟩
   show (n+8 - 1) / 8*8+i*8 - v.2.2 < 2 ^ (8*(8:Int).toNat)
   have:(2:Int) ^ (8*(8:Int).toNat)=18446744073709551616:=by decide
   omega
theorem YF {n ahead:Int} {l:List V3} (ha:ahead=0∨ahead=1) (hn:0≤n) (hn2:n≤1048576) (hl:l.length≤1048576) (h:∀v∈l,JG n v) :
 allF l (0,0,0) n ahead=Ft.leastOf (fun v=>allAt l (0,0,0) n ahead v)∧allF l (0,0,0) n ahead≠0∧isW (allF l (0,0,0) n ahead)=true∧allAt l (0,0,0) n ahead (allF l (0,0,0) n ahead)=true:=by
 have hA:isA ahead:=by rcases ha with rfl | rfl<;>simp[isA]
 have e:allF l (0,0,0) n ahead=Ft.leastOf (fun v=>allAt l (0,0,0) n ahead v):=by
  unfold allF
  rw[if_pos ⟨⟨hn,by omega⟩,hA,hl⟩]
 have h8:allAt l (0,0,0) n ahead 8=true:=by
  unfold allAt
  rw[VH l ahead h hn (by omega) (by omega),Bool.and_true]
  unfold headF
  have:(ahead == 3)=false:=by rcases ha with rfl | rfl<;>rfl
  rw[this]
  have hb:belowW l.length 8=true:=by unfold belowW;rw[decide_eq_true_eq];have:(2:Int) ^ (8*(8:Int).toNat)=18446744073709551616:=(by decide);omega
  rw[hb]
  simp
 have h0:allF l (0,0,0) n ahead≠0:=by rw[e];exact Y2 h8
 refine⟨e,h0,KH h0,?_⟩
 have:=J7 (p:=fun v=>allAt l (0,0,0) n ahead v) (by rw[← e];exact h0)
 rw[← e] at this
 exact this
theorem mG {most:Int} {T:V3→Int} {len jS:Bool} {kind:Int} {b:List UInt8} {l:List V3} (hT:∀v∈l,T v=0) (hb:b.length≤1048576) (hl:l.length≤1048576) (h:∀v∈l,JG b.length v) :
 zE most T len jS kind 0 l (b,0)=(fun x=>(fun sf:St=>if sf.2≠0 then (((0,0,0),sf.2),sf) else (((kind,x,((z6 most (kA (j9 b x)::(if len then [kI x.toNat l.length] else [])) (b,0)).1.length:Int)),0),sf)) (z6 most (yD x len jS b l) (b,0))) (allF l (0,0,0) b.length (if len then 1 else 0)):=by
 have hT0:zB T 0 l=0:=by
  clear hl h
  induction l with
  | nil=>rfl
  | cons v r ih=>
   show zB T (if (0:Int)=0 then T v else 0) r=0
   rw[if_pos rfl,hT v (by simp)]
   exact ih fun u hu=>hT u (by simp[hu])
 obtain⟨e,x0,hx,qN⟩:=YF (n:=b.length) (ahead:=if len then 1 else 0) (by cases len<;>simp) (by omega) (by omega) hl h
 unfold zE
 rw[if_neg (by simpa using hT0)]
 simp only[if_neg x0]
 generalize allF l (0,0,0) b.length (if len then 1 else 0)=x at *
 have hw:=kN hx
 have hfit:fitsL l b.length (if len then 1 else 0) x=true:=by
  have h:=qN
  unfold allAt at h
  simp only[Bool.and_eq_true] at h
  exact h.2
 have kE:len=true→(l.length:Int) < 2 ^ (8*x.toNat):=by
  intro hl1
  subst hl1
  have h:=qN
  unfold allAt headF at h
  simp only[Bool.and_eq_true,belowW] at h
  have:=h.1.1
  simpa using this
 have hp:=bQ hx b
 have e1:jG most x (b,0)=z6 most [kA (j9 b x)] (b,0):=by
  unfold jG
  rw[if_pos hx]
  rfl
 have e2:(if len then jX most x l.length (jG most x (b,0)) else jG most x (b,0))=z6 most (kA (j9 b x)::(if len then [kI x.toNat l.length] else [])) (b,0):=by
  rw[e1]
  cases len with
  | false=>rfl
  | true=>
   rw[if_pos rfl,KI hx (kE rfl)]
   rfl
 have e2':(if len=true then jX most x (↑l.length) (jG most x (b,0)) else jG most x (b,0))=z6 most (kA (j9 b x)::(if len then [kI x.toNat l.length] else [])) (b,0):=e2
 rw[e2']
 have e3:(if jS=true then kP most x l (jT most x l (z6 most (kA (j9 b x)::(if len then [kI x.toNat l.length] else [])) (b,0))) else jT most x l (z6 most (kA (j9 b x)::(if len then [kI x.toNat l.length] else [])) (b,0)))=z6 most (yD x len jS b l) (b,0):=by
  have e4:jT most x l (z6 most (kA (j9 b x)::(if len then [kI x.toNat l.length] else [])) (b,0))=z6 most (J1 x ((b.length:Int)+j9 b x+(if len then x else 0)) l) (z6 most (kA (j9 b x)::(if len then [kI x.toNat l.length] else [])) (b,0)):=by
   by_cases hf:(b.length:Int)+(kA (j9 b x)::(if len then [kI x.toNat l.length] else [])).flatten.length≤most
   ·rw[JJ _ _ hf]
    have hl2:((b++(kA (j9 b x)::(if len then [kI x.toNat l.length] else [])).flatten).length:Int)=(b.length:Int)+j9 b x+(if len then x else 0):=by
     cases len<;>simp[jY,j7]<;>omega
    rw[K5 hx l _ (by
     rw[hl2]
     refine QW hx l (if len then 1 else 0) _ ?_ (by cases len<;>simp) hfit
     rw[hp]
     cases len<;>simp),hl2]
   ·by_cases hb2:(b.length:Int)≤most
    ·have h5:(z6 most (kA (j9 b x)::(if len then [kI x.toNat l.length] else [])) (b,0)).2≠0:=by rw[(bP _ b hb2 hf).1];decide
     rw[JD h5,qS h5]
    ·have h5:z6 most (kA (j9 b x)::(if len then [kI x.toNat l.length] else [])) (b,0)=(b,5):=by
      show z6 most _ (j6 most (kA (j9 b x)) (b,0))=_
      rw[YE (by rw[jY];omega),qS (s:=(b,5)) (show (5:Int)≠0 by decide)]
     rw[h5,JD (s:=(b,5)) (show (5:Int)≠0 by decide),qS (s:=(b,5)) (show (5:Int)≠0 by decide)]
  rw[e4]
  unfold yD
  rw[JE,JE]
  cases jS with
  | false=>rfl
  | true=>
   rw[if_pos rfl,if_pos rfl,ZT]
 rw[e3]
theorem aP {most:Int} {T:V3→Int} {len jS:Bool} {kind:Int} {b:List UInt8} {l:List V3} {x:Int} (hT:∀v∈l,T v=0) (hb:b.length≤1048576) (hl:l.length≤1048576) (h:∀v∈l,JG b.length v)
 (hx:allF l (0,0,0) b.length (if len then 1 else 0)=x) (hr:ZU x len jS b l≤most):zE most T len jS kind 0 l (b,0)=(((kind,x,(b.length:Int)+j9 b x+(if len then x else 0)),0),(b++(yD x len jS b l).flatten,0)):=by
 obtain⟨_,_,hw,_⟩:=YF (n:=b.length) (ahead:=if len then 1 else 0) (by cases len<;>simp) (by omega) (by omega) hl h
 rw[mG hT hb hl h]
 simp only[hx]
 rw[hx] at hw
 have hwp:=kN hw
 have hpl:=qK hw len jS b l
 rw[JJ (yD x len jS b l) b (by omega)]
 have hmul:0≤x*(l.length:Int):=Int.mul_nonneg (by omega) (by omega)
 rw[if_neg (by simp),JJ _ b (by unfold ZU at hr;cases len<;>cases jS<;>simp[jY,j7] at hr⊢<;>omega)]
 have hl2:((b++(kA (j9 b x)::(if len then [kI x.toNat l.length] else [])).flatten).length:Int)=(b.length:Int)+j9 b x+(if len then x else 0):=by
  cases len<;>simp[jY,j7]<;>omega
 rw[hl2]
end Go.Proofs.YtjnpcddbgfmpcaaGreatDoor
namespace Go.Proofs.YtjnpcddbgfmpcaaGreatDoor
open Go Go.ChangeShapes Go.WideShapes Go.ChangeAt Go.RowKit Go.Joins Go.Deep
section
variable {H:Type} {enc:TypeId × Value→H} {W:World} {base:Nat} {v:Value} {d:DataW H} {p:List MemPlace}
end
end Go.Proofs.YtjnpcddbgfmpcaaGreatDoor
namespace Go.Proofs.YtjnpcddbgfmpcaaGreatDoor
open Go Go.ChangeShapes Go.WideShapes Go.ChangeAt Go.RowKit Go.Joins
open Go.Proofs.YtjnpcddbgfmpcaaGreatDoor.Ft (V3 vV okV ValsAt inlineB legalB packF codeF typedF allF allAt headF fitsL fitsV fitsF belowW isA)
theorem iG (n:Int):0≤IntKind.u64.wrap n∧IntKind.u64.wrap n≤18446744073709551615:=by
 rw[IntKind.wrap_u64];omega
theorem mH {a:Int} {l:List V3} (h:∀v∈l,JG a v):∀v∈l,jW v=0:=fun v hv=>(h v hv).1
theorem iH {x:Int} (hx:isW x=true) (len jS:Bool) (b:List UInt8) (l:List V3):ZU x len jS b l≤b.length+15+9*l.length:=by
 have hw:=kN hx
 have hp:=(QG (l:=b) hx).1
 have hm:x*(l.length:Int)≤8*l.length:=Int.mul_le_mul_of_nonneg_right hw.2 (by omega)
 unfold ZU
 cases len<;>cases jS<;>simp only[if_true,Bool.false_eq_true,if_false]<;>omega
end Go.Proofs.YtjnpcddbgfmpcaaGreatDoor
namespace Go.Proofs.YtjnpcddbgfmpcaaGreatDoor
open Go Go.ChangeShapes Go.WideShapes Go.ChangeAt Go.RowKit Go.Joins
open Go.Proofs.YtjnpcddbgfmpcaaGreatDoor.Ft (V3 vV okV ValsAt inlineB legalB packF codeF typedF allF allAt headF fitsL fitsV fitsF belowW isA unpackF)
theorem oJ (n u:Nat):kI (n+1) u=UInt8.ofNat (u % 256)::kI n (u / 256):=by
 unfold kI
 rw[List.range_succ_eq_map,List.map_cons,List.map_map]
 simp only[Nat.pow_zero,Nat.div_one]
 congr 1
 apply List.map_congr_left
 intro i _
 simp only[Function.comp,Nat.succ_eq_add_one]
 rw[Nat.pow_succ,Nat.mul_comm (256 ^ i) 256,← Nat.div_div_eq_div_mul]
theorem iI:∀(n u:Nat),u < 256 ^ n→leF (kI n u)=u
 | 0,u,h=>by
  have:u=0:=by simpa using h
  subst this
  simp[kI,leF]
 | n+1,u,h=>by
  rw[oJ]
  show ((UInt8.ofNat (u % 256)).toNat:Int)+256*leF (kI n (u / 256))=u
  rw[iI n (u / 256) (by rw[Nat.pow_succ] at h;omega),UInt8.toNat_ofNat']
  omega
theorem pow_256 {x:Int} (hx:isW x=true):(256:Nat) ^ x.toNat=(2 ^ (8*x.toNat):Int):=by
 rcases kH hx with rfl|rfl|rfl|rfl<;>decide
theorem KJ {X A C:List UInt8} {x u at_:Int} (hx:isW x=true) (hX:X=A++kI x.toNat u.toNat++C) (hA:(A.length:Int)=at_) (h0:0≤u) (h1:u < 2 ^ (8*x.toNat)):yX X at_ x=(u,0):=by
 have hp:=kN hx
 subst hX
 unfold yX
 rw[if_pos hx,if_neg (by rw[List.length_append,List.length_append,j7];omega)]
 have e:(((A++kI x.toNat u.toNat++C).drop at_.toNat).take x.toNat)=kI x.toNat u.toNat:=by
  rw[← hA,show ((A.length:Int)).toNat=A.length by omega,List.append_assoc,List.drop_left,List.take_left' (j7 _ _)]
 rw[e,iI _ _ (by have:=pow_256 hx;omega)]
 rw[show (u.toNat:Int)=u by omega]
theorem fT {x:Int} (hx:isW x=true):∀(l:List V3) (p:Int) (k:Nat) (v:V3),l[k]? = some v→∃A C,(J1 x p l).flatten=A++kI x.toNat (JF x (p+k*x) v).toNat++C∧(A.length:Int)=k*x
 | [],_,_,_,h=>by simp at h
 | u::r,p,0,v,h=>by
  simp at h
  subst h
  exact⟨[],(J1 x (p+x) r).flatten,by simp[J1],by simp⟩
 | u::r,p,k+1,v,h=>by
  have hp:=kN hx
  obtain⟨A,C,h1,h2⟩:=fT hx r (p+x) k v (by simpa using h)
  refine⟨kI x.toNat (JF x p u).toNat++A,C,?_,?_⟩
  ·have e:p+x+(k:Int)*x=p+((k+1:Nat):Int)*x:=by rw[Int.natCast_add,Int.add_mul];simp;omega
   rw[e] at h1
   simp only[J1,List.flatten_cons,h1,List.append_assoc]
  ·rw[List.length_append,j7,Int.natCast_add,h2,Int.natCast_add,Int.add_mul]
   simp;omega
theorem QX (x:Int) (l:List V3):(l.map fun v=>[qD x v]).flatten=l.map (qD x):=by
 induction l with
 | nil=>rfl
 | cons v r ih=>simp only[List.map_cons,List.flatten_cons,ih];rfl
theorem VI:∀(l:List V3) (at_ i x:Int) (k:Nat) (v:V3),fitsL l at_ i x=true→l[k]? = some v→fitsV v at_ (i+k) x=true
 | [],_,_,_,_,_,_,h=>by simp at h
 | u::r,at_,i,x,0,v,hf,h=>by
  have:(fitsV u at_ i x && fitsL r at_ (i+1) x)=true:=hf
  simp at this h
  subst h
  simpa using this.1
 | u::r,at_,i,x,k+1,v,hf,h=>by
  have:(fitsV u at_ i x && fitsL r at_ (i+1) x)=true:=hf
  simp only[Bool.and_eq_true] at this
  have h2:=VI r at_ (i+1) x k v this.2 (by simpa using h)
  rw[show i+((k+1:Nat):Int)=i+1+k by omega]
  exact h2
theorem bR {x:Int}:∀(l:List V3) (p:Int) (k:Nat) (v:V3),fitE x p l→l[k]? = some v→0≤JF x (p+k*x) v∧JF x (p+k*x) v < 2 ^ (8*x.toNat)
 | [],_,_,_,_,h=>by simp at h
 | u::r,p,0,v,hf,h=>by
  simp at h
  subst h
  simpa using hf.1
 | u::r,p,k+1,v,hf,h=>by
  have h2:=bR r (p+x) k v hf.2 (by simpa using h)
  have e:p+x+(k:Int)*x=p+((k+1:Nat):Int)*x:=by rw[Int.natCast_add,Int.add_mul];simp;omega
  rw[e] at h2
  exact h2
theorem bS {x:Int} {v:V3} (hx:isW x=true) (hl:jW v=0):unpackF (qD x v).toNat=(v.1,if inlineB v.1 then x else v.2.1,0):=by
 obtain⟨t,wd,n⟩:=v
 unfold jW at hl
 by_cases hlb:legalB t=true
 ·have hww:isW (if inlineB t then x else wd)=true:=by
   split
   ·exact hx
   ·rename_i hn
    rw[if_pos hlb,if_neg hn] at hl
    by_cases h:isW wd=true
    ·exact h
    ·rw[if_neg h] at hl;cases hl
  unfold qD
  generalize (if inlineB t then x else wd)=y at *
  have ht:0≤t∧t < 37:=by
   by_cases h0:t < 0
   ·unfold legalB at hlb;simp[Ft.kindOf,h0] at hlb
   ·by_cases h1:t < 37
    ·exact⟨by omega,h1⟩
    ·exfalso
     unfold legalB Ft.kindOf at hlb
     rw[if_neg h0] at hlb
     have:Ft.kindRow t.toNat=(0,0,0):=by
      have hm:37≤t.toNat:=by omega
      generalize t.toNat=m at hm
      unfold Ft.kindRow
      split<;>first | rfl | omega
     rw[this] at hlb
     simp at hlb
  have hc:∃c:Nat,c < 4∧codeF y=some (c:Int)∧y=2 ^ c:=by
   rcases kH hww with rfl|rfl|rfl|rfl
   ·exact⟨0,by omega,rfl,rfl⟩
   ·exact⟨1,by omega,rfl,rfl⟩
   ·exact⟨2,by omega,rfl,rfl⟩
   ·exact⟨3,by omega,rfl,rfl⟩
  obtain⟨c,hc4,hcode,hy⟩:=hc
  have e:(packF t y).1=4*t+c:=by
   unfold packF
   rw[if_pos hlb,hcode]
  rw[e,UInt8.toNat_ofNat',show (4*t+(c:Int)).toNat % 2 ^ 8=4*t.toNat+c by omega]
  unfold unpackF
  rw[show (4*t.toNat+c) / 4=t.toNat by omega,show (4*t.toNat+c) % 4=c by omega,show ((t.toNat:Nat):Int)=t by omega,if_pos hlb,hy]
 ·rw[if_neg hlb] at hl;cases hl
theorem mI {X:List UInt8} {at_ x u:Int} (h:yX X at_ x=(u,0)):a6 X at_ x=(sgnF u x,0):=by
 unfold a6
 rw[h]
 rfl
end Go.Proofs.YtjnpcddbgfmpcaaGreatDoor
namespace Go.Proofs.YtjnpcddbgfmpcaaGreatDoor
open Go Go.ChangeShapes Go.WideShapes Go.ChangeAt Go.RowKit Go.Joins
open Go.Proofs.YtjnpcddbgfmpcaaGreatDoor.Ft (V3 vV okV ValsAt inlineB legalB packF codeF typedF allF)
section
variable {w0 w w':World} {p q:Nat} {o o':Option Nat} {most most':Int} {s t s' t':St}
end
end Go.Proofs.YtjnpcddbgfmpcaaGreatDoor
