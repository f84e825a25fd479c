/-Texts-/
import Derived.Test.YtdjoffgkndncfaaGreatDOtherP00
import Derived.Orders
import Derived.Below
import Derived.KernelRfl
set_option linter.unusedVariables false
set_option linter.unusedSimpArgs false
namespace Go.Proofs.YtdjoffgkndncfaaGreat
open Go Go.RowKit
variable {a w w':World} {b:Bool} {p:Addr} {v:Value} {q:Prop}
/-! ### growth of the world -/
def jC (w w':World):Prop:=Below w.heap.size w w'
theorem jC.refl (w:World):jC w w:=Below.refl _ _
theorem jC.trans {b c:World} (h:jC a b) (k:jC b c):jC a c:=Below.trans h (Below.mono k (Below.size h))
theorem jC.size {b:World} (h:jC a b):a.heap.size≤b.heap.size:=Below.size h
theorem jC.drew (h:jC a w):jC a w.drew:=Below.drew h
theorem jC.alloc (h:jC a w) (o:Obj):jC a (w.alloc o):=Below.alloc h (Below.size h) o
theorem jC.setCell (h:jC a w) (hp:a.heap.size≤p.block) (u:Value):jC a (w.setCell p u):=Below.setCell h hp u
theorem jC.heap (h:jC w w') {k:Nat} {o:Obj} (hk:w.heap[k]? = some o):w'.heap[k]? = some o:=
 (Below.block h k (zc.1 hk).1).trans hk
theorem y7 (hc:w.cell? p=some v):p.block < w.heap.size:=by
 rcases Nat.lt_or_ge p.block w.heap.size with h|h
 ·exact h
 simp[World.cell?,Array.getElem?_eq_none h] at hc
theorem jC.cell (h:jC w w') (hc:w.cell? p=some v):w'.cell? p=some v:=
 (Below.cell h (y7 hc)).trans hc
theorem jC.frozen (h:jC w w') (hp:p.block < w.heap.size) (hc:w.frozen? p=b):w'.frozen? p=b:=
 (Below.frozen h hp).trans hc
theorem jC.rules {W w1:World} (hb:jC W w1):(∀b o,b < W.heap.size→w1.cell? ⟨b,o,none⟩=W.cell? ⟨b,o,none⟩)∧(∀b o,b < W.heap.size→w1.frozen? ⟨b,o,none⟩=W.frozen? ⟨b,o,none⟩)∧W.heap.size≤w1.heap.size:=
 ⟨λb o h=>Below.cell (p:=⟨b,o,none⟩) hb h,λb o h=>Below.frozen (p:=⟨b,o,none⟩) hb h,hb.size⟩
/-! ### filling the slots of a frame -/
section
variable {P:Program} {ops:Array Oper}
def jF (y:Nat→Value):List (Nat × Nat)→Act→Act
 | [],a=>a
 | (d,j)::r,a=>jF y r (a.put (some d) (y j))
theorem put_put (a:Act) (d:Nat) (u v:Value):(a.put (some d) u).put (some d) v=a.put (some d) v:=by
 simp[Act.put]
theorem eW (y:Nat→Value) (d:Nat) (u:Value):∀(r:List (Nat × Nat)) (a:Act),(∀p∈r,p.1≠d)→jF y r (a.put (some d) u)=(jF y r a).put (some d) u
 | [],_,_=>rfl
 | (e,j)::r,a,h=>by
  have hne:e≠d:=h (e,j) zp2;have hc:(a.put (some d) u).put (some e) (y j)=(a.put (some e) (y j)).put (some d) u:=Act.put_comm a u (y j) (λx hx hy=>by cases hx;cases hy;exact hne rfl);show jF y r ((a.put (some d) u).put (some e) (y j))=_;rw[hc];exact eW y d u r _ (λp hp=>h p (by simp[hp]))
theorem V7 (y z:Nat→Value):∀(r:List (Nat × Nat)) (a:Act),(∀p∈r,y p.2=z p.2)→jF y r a=jF z r a
 | [],_,_=>rfl
 | (e,j)::r,a,h=>by
  show jF y r (a.put (some e) (y j))=jF z r (a.put (some e) (z j));rw[h (e,j) zp2];exact V7 y z r _ (λp hp=>h p (by simp[hp]))
def eX:List (Nat × Nat)→Bool
 | []=>true
 | p::r=>r.all (λq=>q.1 != p.1 && q.2 != p.2) && eX r
theorem oO (y:Nat→Value) (i:Nat) (v:Value):∀(L:List (Nat × Nat)) (a:Act) (d:Nat),eX L=true→(d,i)∈L →
 jF (λk=>if k=i then v else y k) L a=(jF y L a).put (some d) v
 | (e,j)::r,a,d,hk,hm=>by
  simp only[eX,zg,qu,bne_iff_ne] at hk;obtain⟨hne,hk⟩:=hk;show jF _ r (a.put (some e) (if j=i then v else y j))=(jF y r (a.put (some e) (y j))).put (some d) v;rcases qp.1 hm with h|h
  ·obtain⟨rfl,rfl⟩:=Prod.mk.injEq .. ▸ h;rw[zl rfl,V7 _ y r _ (λp hp=>ze (hne p hp).2),eW y d v r a (λp hp=>(hne p hp).1),eW y d (y i) r a (λp hp=>(hne p hp).1),put_put]
  have hij:j≠i:=λhe=>(hne _ h).2 he.symm;rw[ze hij];exact oO y i v r _ d hk h
theorem vS (y:Nat→Value) (p:Nat × Nat→Bool):∀(L:List (Nat × Nat)) (a:Act),eX L=true→(∀q∈L,p q=false→a.put (some q.1) (y q.2)=a) →
 jF y (L.filter p) a=jF y L a
 | [],_,_,_=>rfl
 | (e,j)::r,a,hk,h=>by
  simp only[eX,zg,qu,bne_iff_ne] at hk;obtain⟨hne,hk⟩:=hk
  have hr:∀q∈r,p q=false→(a.put (some e) (y j)).put (some q.1) (y q.2)=a.put (some e) (y j):=λq hq hp=>by
   rw[← Act.put_comm a (y q.2) (y j) (λx hx hy=>by cases hx;cases hy;exact (hne q hq).1 rfl),h q (by simp[hq]) hp]
  cases hp:p (e,j) with
  | true=>
   rw[List.filter_cons_of_pos hp];exact vS y p r _ hk hr
  | false=>
   rw[List.filter_cons_of_neg (by simp[hp])];have h0:=h (e,j) zp2 hp;show jF y (r.filter p) a=jF y r (a.put (some e) (y j));simp only at h0;rw[h0] at hr⊢;exact vS y p r _ hk hr
def qU (ops:Array Oper):List (Nat × Nat):=(List.range ops.size).filterMap λj=>((ops[j]?).bind (·.dst)).map λd=>(d,j)
theorem mem_pairsOf {d j:Nat}:(d,j)∈qU ops↔(ops[j]?).bind (·.dst)=some d:=by
 unfold qU;rw[List.mem_filterMap];constructor
 ·rintro ⟨k,_,hk⟩
  cases hd:(ops[k]?).bind (·.dst) with
  | none=>simp[hd] at hk
  | some e=>simp[hd] at hk;obtain⟨rfl,rfl⟩:=hk;exact hd
 intro h;refine⟨j,?_,by simp[h]⟩;rw[qw];rcases Nat.lt_or_ge j ops.size with h'|h'
 ·exact h'
 rw[Array.getElem?_eq_none h'] at h;cases h
def lD (D:Array (List Nat)) (i j:Nat):Bool:=(D.getD j []).contains i
def yZ (ops:Array Oper) (D:Array (List Nat)) (i:Nat):List (Nat × Nat):=(qU ops).filter λq=>!(q.2 == i || lD D i q.2)
def KB (ops:Array Oper) (D:Array (List Nat)):Bool:=
 eX (qU ops) &&
 (List.range ops.size).all λi=>
  match ops[i]? with
  | none=>true
  | some o=>
   let es:=(o.after.toList.filter (Region.binds .any)).map (·.on)
   es.all (λe=>e < i) && (D.getD i []).all λk=>es.any λe=>e == k || (D.getD e []).contains k
def cH (P:Program) (ops:Array Oper) (R:World→World→Prop) (D:Array (List Nat)) (Φ:Nat→Value→World→Prop) (a0:Act) (w0:World) (i:Nat) (o:Oper):Prop:=
 ∀(y:Nat→Value) (w:World),R w0 w→(∀j∈D.getD i [],Φ j (y j) w)→∀K:Act→World→Prop,
  (∀v w',R w w'→Φ i v w'→K ((jF y (yZ ops D i) a0).put o.dst v) w') →
  if Region.wanted o (yielded ops (jF y (yZ ops D i) a0).tmps) then o.wp P (jF y (yZ ops D i) a0) w K (λ_ _ _=>False) else K ((jF y (yZ ops D i) a0).put o.dst undef) w
def K2 (p:Nat→Oper→Prop):Nat→List Oper→Prop
 | _,[]=>True
 | i,o::r=>p i o∧K2 p (i+1) r
theorem K4 {p:Nat→Oper→Prop}:∀(l:List Oper) (i k:Nat) (o:Oper),K2 p i l→l[k]? = some o→p (i+k) o:=by
 intro l
 induction l with
 | nil=>intro i k o _ hk;cases hk
 | cons o' r ih=>
  intro i k o h hk
  cases k with
  | zero=>
   rw[yb,ya] at hk;rw[← hk];exact h.1
  | succ k=>
   rw[xp] at hk;have h2:=ih (i+1) k o h.2 hk;have e:i+(k+1)=i+1+k:=by omega
   rw[e];exact h2
theorem YO {p q:Nat→Bool}:∀(l:List Nat) (i:Nat),(∀j,q j=true→p j=true)→i∈l→p i=true→q i=false→(l.filter q).length < (l.filter p).length
 | x::l,i,h,hm,hp,hq=>by
  have hle:∀l:List Nat,(l.filter q).length≤(l.filter p).length:=λl=>by
   induction l with
   | nil=>simp
   | cons y l ih=>
    cases hqy:q y with
    | true=>rw[List.filter_cons_of_pos hqy,List.filter_cons_of_pos (h y hqy)];simpa using ih
    | false=>
     rw[List.filter_cons_of_neg (by simp[hqy])]
     cases hpy:p y with
     | true=>rw[List.filter_cons_of_pos hpy];simp;omega
     | false=>rw[List.filter_cons_of_neg (by simp[hpy])];exact ih
  rcases qp.1 hm with he|he
  ·subst he;rw[List.filter_cons_of_pos hp,List.filter_cons_of_neg (by simp[hq])];have:=hle l;simp;omega
  have ih:=YO l i h he hp hq
  cases hqx:q x with
  | true=>rw[List.filter_cons_of_pos hqx,List.filter_cons_of_pos (h x hqx)];simpa using ih
  | false=>
   rw[List.filter_cons_of_neg (by simp[hqx])]
   cases hpx:p x with
   | true=>rw[List.filter_cons_of_pos hpx];simp;omega
   | false=>rw[List.filter_cons_of_neg (by simp[hpx])];exact ih
structure InvF (ops:Array Oper) (R:World→World→Prop) (D:Array (List Nat)) (Φ:Nat→Value→World→Prop) (a0:Act) (w0:World) (jH:Array Bool) (a:Act) (w:World) (y:Nat→Value):Prop where
 size:jH.size=ops.size
 act:a=jF y (qU ops) a0
 grown:R w0 w
 facts:∀j,jH.getD j false=true→Φ j (y j) w
 open_:∀j d,jH.getD j true=false→(ops[j]?).bind (·.dst)=some d→a0.put (some d) (y j)=a0
 closed:∀j,jH.getD j false=true→∀k∈D.getD j [],jH.getD k false=true
theorem t7 (a:Act) (d:Nat):a.put (some d) (a.tmps.getD d undef)=a:=by
 cases a with
 | mk t df=>
  simp only[Act.put];congr 1;apply Array.ext
  ·simp
  intro i h1 h2;rw[Array.getElem_setIfInBounds h2];split
  ·rename_i he;subst he;simp[Array.getD,h2]
  rfl
theorem zU {jH:Array Bool} {j:Nat} (hj:j < jH.size):jH.getD j true=jH.getD j false:=by
 simp[Array.getD,hj]
theorem lE {R:World→World→Prop} {D:Array (List Nat)} {Φ:Nat→Value→World→Prop} {a0:Act} {w0:World} {Q:Exit→Act→World→Prop}
 (hRt:∀{a b c:World},R a b→R b c→R a c) (hchk:KB ops D=true) (hst:∀j v w w',R w w'→Φ j v w→Φ j v w') (hrr:∀w,R w w)
 (hop:∀i o,ops[i]? = some o→cH P ops R D Φ a0 w0 i o)
 (hfin:∀y w,R w0 w→(∀j,j < ops.size→Φ j (y j) w)→Q .normal (jF y (qU ops) a0) w) :
 ∀(fuel:Nat) (jH:Array Bool) (a:Act) (w:World) (y:Nat→Value),((List.range ops.size).filter λj=>!jH.getD j true).length≤fuel →
  InvF ops R D Φ a0 w0 jH a w y→wpAny P .any ops Q fuel jH a w:=by
 simp only[KB,zg,qu,qw] at hchk;obtain⟨vC,yU⟩:=hchk
 -- nothing ready: all has been jH
 have qG:∀(jH:Array Bool),jH.size=ops.size→Region.ready .any ops jH=[]→∀j,j < ops.size→jH.getD j false=true:=by
  intro jH hs zX j
  induction j using Nat.strongRecOn with
  | ind j ih=>
   intro hj
   cases hl:jH.getD j false with
   | true=>rfl
   | false=>
    exfalso
    have hmem:j∈Region.ready .any ops jH:=by
     rw[mem_ready];refine⟨by rw[zU zo];exact hl,ops[j],qx hj,λe he hb=>?_⟩;have jK:=yU j hj;rw[qx hj] at jK;simp only[zg,qu,zp] at jK;have hlt:=jK.1 e.on (qh.2 ⟨e,xh.2 ⟨by simpa using he,hb⟩,rfl⟩);exact ih e.on hlt zo
    rw[zX] at hmem;cases hmem
 have hdone:∀(jH:Array Bool) (a:Act) (w:World) (y:Nat→Value),InvF ops R D Φ a0 w0 jH a w y→Region.ready .any ops jH=[]→Q .normal a w:=by
  intro jH a w y hI zX;rw[hI.act];exact hfin y w hI.grown (λj hj=>hI.facts j (qG jH hI.size zX j hj))
 intro fuel
 induction fuel with
 | zero=>
  intro jH a w y kE hI
  have zX:Region.ready .any ops jH=[]:=by
   have h0:((List.range ops.size).filter λj=>!jH.getD j true)=[]:=List.length_eq_zero_iff.1 zo;refine List.eq_nil_iff_forall_not_mem.2 λj hj=>?_;have hj':=mem_ready.1 hj
   have:j∈((List.range ops.size).filter λj=>!jH.getD j true):=by
    obtain⟨hl,o,ho,_⟩:=hj';exact xh.2 ⟨qw.2 (zc.1 ho).1,by simp[hl]⟩
   rw[h0] at this;cases this
  exact⟨zX,hdone jH a w y hI zX⟩
 | succ fuel ih=>
  intro jH a w y kE hI;refine⟨hdone jH a w y hI,λi hi=>?_⟩;obtain⟨hun,o,ho,hedges⟩:=mem_ready.1 hi;have hilt:i < ops.size:=(zc.1 ho).1;have hunf:jH.getD i false=false:=by rw[← zU zp27];exact hun
  have jK:=yU i hilt;rw[ho] at jK;simp only[zg,qu,zp,List.any_eq_true,qv,xw,List.contains_iff_mem] at jK
  -- what i lD for has been jH
  have hD:∀k∈D.getD i [],jH.getD k false=true:=by
   intro k hk;obtain⟨e,he,hek⟩:=jK.2 k hk;obtain⟨ed,hed,rfl⟩:=qh.1 he;obtain⟨hed1,hed2⟩:=xh.1 hed;have hl:=hedges ed (by simpa using hed1) hed2;rcases hek with rfl|hek
   ·exact hl
   exact hI.closed _ hl k hek
  have hcan:jF y (yZ ops D i) a0=a:=by
   rw[hI.act];refine vS y _ _ a0 vC ?_;rintro ⟨d,j⟩ hq hp;simp only[Bool.not_eq_false',qv,xw] at hp;have hdst:=mem_pairsOf.1 hq;refine hI.open_ j d ?_ hdst;rcases hp with rfl|hw
   ·exact hun
   exact zb0
  have hw:=hop i o ho y w hI.grown (λj hj=>hI.facts j (hD j hj)) (λa' w'=>∃v,a'=a.put o.dst v∧R w w'∧Φ i v w');rw[hcan] at hw
  have hlen':((List.range ops.size).filter λj=>!(jH.setIfInBounds i true).getD j true).length≤fuel:=by
   have:((List.range ops.size).filter λj=>!(jH.setIfInBounds i true).getD j true).length < ((List.range ops.size).filter λj=>!jH.getD j true).length:=by
    refine YO _ i (λj hj=>?_) (qw.2 hilt) (by rw[hun];rfl) ?_
    ·exact zb1
    exact zb2
   omega
  have hnext:∀v w',R w w'→Φ i v w'→wpAny P .any ops Q fuel (jH.setIfInBounds i true) (a.put o.dst v) w':=by
   intro v w' hr hφ;have h2:i < jH.size:=by rw[hI.size];exact hilt
   refine ih _ _ _ (λk=>if k=i then v else y k) hlen' ⟨by simp[hI.size],?_,hRt hI.grown hr,?_,?_,?_⟩
   ·exact zb3
   ·exact zb4
   ·exact zb5
   exact zb6
  unfold wpOp;simp only[ho];have hw2:=hw (λv w' hr hφ=>⟨v,rfl,hr,hφ⟩);split at hw2
  ·exact zb7
  exact zb8
where
 wp_exit {o:Oper} {a:Act} {w:World} {K:Act→World→Prop} {Q:Exit→Act→World→Prop} (h:o.wp P a w K (λ_ _ _=>False)):o.wp P a w K Q:=by
  unfold Oper.wp at *;generalize (execOp a.eval o).run P w=r at *
  cases r with
  | ok n w'=>
   cases n<;>simp only[Oper.upon] at h⊢
   case enter f args=>
    refine Calls.mono h λe w'' he=>?_
    cases e with
    | returned v=>exact he
    | panicked c=>exact he.elim
    | outgrown=>obtain⟨_,_,hq⟩:=he;exact hq.elim
   all_goals exact h
  | halt x w'=>cases x<;>simp only[Oper.upon] at h
theorem iM {id:Nat} {a0:Act} {w0:World} {Q:Exit→Act→World→Prop} (R:World→World→Prop) (D:Array (List Nat)) (Φ:Nat→Value→World→Prop) (hm:P.follows .mixedOrders=true)
 (hRt:∀{a b c:World},R a b→R b c→R a c) (hrr:∀w,R w w) (hd:R w0 w0.drew) (hchk:KB ops D=true) (hst:∀j v w w',R w w'→Φ j v w→Φ j v w')
 (hop:K2 (cH P ops R D Φ a0 w0) 0 ops.toList)
 (hfin:∀y w,R w0 w→(∀j,j < ops.size→Φ j (y j) w)→Q .normal (jF y (qU ops) a0) w):(Code.region id ops true).wp P Q a0 w0:=by
 refine wp_region_any hm ?_;refine lE (R:=R) (D:=D) (Φ:=Φ) (a0:=a0) (w0:=w0) hRt hchk hst hrr (λi o ho=>?_) hfin ops.size _ a0 _ (λj=>match (ops[j]?).bind (·.dst) with | some d=>a0.tmps.getD d undef | none=>undef) ?_ ⟨by simp,?_,hd,?_,?_,?_⟩
 ·have:=K4 _ 0 i o hop (by simpa using ho);simpa using this
 ·exact zb9
 ·exact zb10
 ·exact A5
 ·exact zb12
 exact A5
/-! ### the same with written-out tables -/
def Is (v:Value) (u:Value) (_:World):Prop:=u=v
def kC (Φ:List (Value→World→Prop)) (y:Nat→Value) (w:World):List Nat→Prop
 | []=>True
 | j::r=>Φ.getD j (λ_ _=>True) (y j) w∧kC Φ y w r
theorem t8 {Φ:List (Value→World→Prop)} {y:Nat→Value} {w:World}:∀(d:List Nat),(∀j∈d,Φ.getD j (λ_ _=>True) (y j) w)→kC Φ y w d
 | [],_=>trivial
 | j::r,h=>⟨h j zp2,t8 r (λk hk=>h k (by simp[hk]))⟩
def stL (R:World→World→Prop):List (Value→World→Prop)→Prop
 | []=>True
 | φ::r=>(∀v w w',R w w'→φ v w→φ v w')∧stL R r
theorem rW {R:World→World→Prop}:∀(Φ:List (Value→World→Prop)),stL R Φ→∀φ∈Φ,∀v w w',R w w'→φ v w→φ v w'
 | φ::r,h,ψ,hm=>by
  rcases qp.1 hm with e|e
  ·subst e;exact h.1
  exact rW r h.2 ψ e
theorem jJ {R:World→World→Prop} {x:Value}:∀v w w',R w w'→Is x v w→Is x v w':=λ_ _ _ _ h=>h
def zV (y:Nat→Value) (w:World):Nat→List (Value→World→Prop)→Prop
 | _,[]=>True
 | i,φ::r=>φ (y i) w∧zV y w (i+1) r
theorem aZ {Φ0:List (Value→World→Prop)} {y:Nat→Value} {w:World}:∀(Φ:List (Value→World→Prop)) (i:Nat),(∀k,Φ[k]? = Φ0[i+k]?)→(∀j,j < i+Φ.length→Φ0.getD j (λ_ _=>True) (y j) w)→zV y w i Φ
 | [],_,_,_=>trivial
 | φ::r,i,h,hj=>by
  refine⟨?_,aZ r (i+1) (λk=>?_) (λj hj'=>hj j zp6)⟩
  ·have h0:=hj i zp2;have:=h 0;simp at this;simpa [zw,← this] using h0
  have:=h (k+1);simp at this;rw[this];congr 1;omega
def word (P:Program) (ops:Array Oper) (R:World→World→Prop) (Φ:List (Value→World→Prop)) (a0:Act) (w0:World) (i:Nat) (o:Oper) (d:List Nat) (c:List (Nat × Nat)):Prop:=
 ∀(y:Nat→Value) (w:World),R w0 w→kC Φ y w d→∀K:Act→World→Prop,
  (∀a' v w',a'=(jF y c a0).put o.dst v→R w w'→Φ.getD i (λ_ _=>True) v w'→K a' w') →
  if Region.wanted o (yielded ops (jF y c a0).tmps) then o.wp P (jF y c a0) w K (λ_ _ _=>False) else K ((jF y c a0).put o.dst undef) w
def allW (P:Program) (ops:Array Oper) (R:World→World→Prop) (Φ:List (Value→World→Prop)) (a0:Act) (w0:World):Nat→List Oper→List (List Nat)→List (List (Nat × Nat))→Prop
 | _,[],_,_=>True
 | i,o::r,d::ds,c::cs=>word P ops R Φ a0 w0 i o d c∧allW P ops R Φ a0 w0 (i+1) r ds cs
 | _,_::_,_,_=>False
def KJ (ops:Array Oper) (D:List (List Nat)) (C:List (List (Nat × Nat))) (F:List (Nat × Nat)):Bool:=
 KB ops D.toArray && (decide (F=qU ops)) && (List.range ops.size).all λi=>decide (C.getD i []=yZ ops D.toArray i)
theorem lF {R:World→World→Prop} {Φ:List (Value→World→Prop)} {a0:Act} {w0:World} (D0:List (List Nat)) (C0:List (List (Nat × Nat))) (hC:∀i,i < ops.size→C0.getD i []=yZ ops D0.toArray i) :
 ∀(l:List Oper) (i:Nat) (D:List (List Nat)) (C:List (List (Nat × Nat))),i+l.length=ops.size→(∀k,D[k]? = D0[i+k]?)→(∀k,C[k]? = C0[i+k]?)→allW P ops R Φ a0 w0 i l D C →
  K2 (cH P ops R D0.toArray (λj=>Φ.getD j (λ_ _=>True)) a0 w0) i l:=by
 intro l
 induction l with
 | nil=>intros;trivial
 | cons o r ih=>
  intro i D C hl hD hC' h
  match D,C,h with
  | d::ds,c::cs,h=>
   obtain⟨h1,h2⟩:=h;refine⟨?_,ih (i+1) ds cs zp24 (λk=>?_) (λk=>?_) h2⟩
   ·exact zb13
   ·exact zb14
   exact zb15
theorem kH {id:Nat} {a0:Act} {w0:World} {Q:Exit→Act→World→Prop} (R:World→World→Prop) (D:List (List Nat)) (C:List (List (Nat × Nat))) (F:List (Nat × Nat)) (Φ:List (Value→World→Prop)) (hm:P.follows .mixedOrders=true)
 (hRt:∀{a b c:World},R a b→R b c→R a c) (hrr:∀w,R w w) (hd:R w0 w0.drew) (hchk:KJ ops D C F=true) (hst:stL R Φ)
 (hop:allW P ops R Φ a0 w0 0 ops.toList D C)
 (kE:Φ.length=ops.size)
 (hfin:∀y w,R w0 w→zV y w 0 Φ→Q .normal (jF y F a0) w):(Code.region id ops true).wp P Q a0 w0:=by
 simp only[KJ,zg,zp,qu,qw] at hchk;obtain⟨⟨h1,h2⟩,h3⟩:=hchk;subst h2;refine iM R D.toArray (λj=>Φ.getD j (λ_ _=>True)) hm hRt hrr hd h1 ?_ (lF D C h3 ops.toList 0 D C zp2 zp2 zp2 hop) (λy w hr hj=>hfin y w hr (aZ Φ 0 zp2 (λj h=>hj j (by rw[← kE];simpa using h))));intro j v w w' hr hφ;rcases Nat.lt_or_ge j Φ.length with hj|hj
 ·have e:Φ.getD j (λ_ _=>True)=Φ[j]:=by simp[zw,hj]
  rw[e] at hφ⊢;exact rW Φ hst _ (xq hj) v w w' hr hφ
 have e:Φ.getD j (λ_ _=>True)=λ_ _=>True:=by simp[zw,hj]
 rw[e];trivial
theorem sqH {id:Nat} {a0:Act} {w0:World} {Q:Exit→Act→World→Prop} (R:World→World→Prop) (D:List (List Nat)) (F:List (Nat × Nat)) (Φ:List (Value→World→Prop)) {C:List (List (Nat × Nat))} (hz:sqC D F=C) (hm:P.follows .mixedOrders=true)
 (hRt:∀{a b c:World},R a b→R b c→R a c) (hrr:∀w,R w w) (hd:R w0 w0.drew) (hchk:KJ ops D C F=true) (hst:stL R Φ)
 (hop:allW P ops R Φ a0 w0 0 ops.toList D C)
 (kE:Φ.length=ops.size)
 (hfin:∀y w,R w0 w→zV y w 0 Φ→Q .normal (jF y F a0) w):(Code.region id ops true).wp P Q a0 w0:=kH R D C F Φ hm hRt hrr hd hchk hst hop kE hfin
end
section
variable {P:Program} {ops:Array Oper}
def GV (ops:Array Oper):Bool:=
 (List.range (ops.size - 1)).all λj=>(List.range ops.size).any λk=>decide (j < k) && match ops[k]? with | some o=>o.after.any λe=>Region.binds .any e && e.on == j | none=>false
theorem iN {R:World→World→Prop} {D:Array (List Nat)} {Φ:Nat→Value→World→Prop} {a0:Act} {w0:World} {Q:Exit→Act→World→Prop}
 (hRt:∀{a b c:World},R a b→R b c→R a c) (hchk:KB ops D=true) (hst:∀j v w w',R w w'→Φ j v w→Φ j v w') (hrr:∀w,R w w)
 (hop:∀i o,i+1 < ops.size→ops[i]? = some o→cH P ops R D Φ a0 w0 i o) (hpos:0 < ops.size) (hsink:GV ops=true)
 (hfin:∀o,ops[ops.size - 1]? = some o→∀y w,R w0 w→(∀j,j+1 < ops.size→Φ j (y j) w)→∀a,a=jF y (yZ ops D (ops.size - 1)) a0 →
  if Region.wanted o (yielded ops a.tmps) then o.wp P a w (λa' w'=>Q .normal a' w') (λ_ _ _=>False) else Q .normal (a.put o.dst undef) w) :
 ∀(fuel:Nat) (jH:Array Bool) (a:Act) (w:World) (y:Nat→Value),((List.range ops.size).filter λj=>!jH.getD j true).length≤fuel →
  InvF ops R D Φ a0 w0 jH a w y→(∀j o,ops[j]? = some o→jH.getD j false=true→∀e∈o.after,Region.binds .any e=true→jH.getD e.on false=true)→jH.getD (ops.size - 1) true=false→wpAny P .any ops Q fuel jH a w:=by
 simp only[KB,zg,qu,qw] at hchk;obtain⟨vC,yU⟩:=hchk
 -- nothing ready: all has been jH
 have qG:∀(jH:Array Bool),jH.size=ops.size→Region.ready .any ops jH=[]→∀j,j < ops.size→jH.getD j false=true:=by
  intro jH hs zX j
  induction j using Nat.strongRecOn with
  | ind j ih=>
   intro hj
   cases hl:jH.getD j false with
   | true=>rfl
   | false=>
    exfalso
    have hmem:j∈Region.ready .any ops jH:=by
     rw[mem_ready];refine⟨by rw[zU zo];exact hl,ops[j],qx hj,λe he hb=>?_⟩;have jK:=yU j hj;rw[qx hj] at jK;simp only[zg,qu,zp] at jK;have hlt:=jK.1 e.on (qh.2 ⟨e,xh.2 ⟨by simpa using he,hb⟩,rfl⟩);exact ih e.on hlt zo
    rw[zX] at hmem;cases hmem
 have hdone:∀(jH:Array Bool) (a:Act) (w:World) (y:Nat→Value),InvF ops R D Φ a0 w0 jH a w y→jH.getD (ops.size - 1) true=false→Region.ready .any ops jH=[]→Q .normal a w:=by
  intro jH a w y hI hl zX;have:=qG jH hI.size zX (ops.size - 1) zo;rw[← zU (by rw[hI.size];omega),hl] at this;cases this
 intro fuel
 induction fuel with
 | zero=>
  intro jH a w y kE hI hE hL
  have zX:Region.ready .any ops jH=[]:=by
   have h0:((List.range ops.size).filter λj=>!jH.getD j true)=[]:=List.length_eq_zero_iff.1 zo;refine List.eq_nil_iff_forall_not_mem.2 λj hj=>?_;have hj':=mem_ready.1 hj
   have:j∈((List.range ops.size).filter λj=>!jH.getD j true):=by
    obtain⟨hl,o,ho,_⟩:=hj';exact xh.2 ⟨qw.2 (zc.1 ho).1,by simp[hl]⟩
   rw[h0] at this;cases this
  exact⟨zX,hdone jH a w y hI hL zX⟩
 | succ fuel ih=>
  intro jH a w y kE hI hE hL;refine⟨hdone jH a w y hI hL,λi hi=>?_⟩;obtain⟨hun,o,ho,hedges⟩:=mem_ready.1 hi;have hilt:i < ops.size:=(zc.1 ho).1;have hunf:jH.getD i false=false:=by rw[← zU zp27];exact hun
  have jK:=yU i hilt;rw[ho] at jK;simp only[zg,qu,zp,List.any_eq_true,qv,xw,List.contains_iff_mem] at jK
  -- what i lD for has been jH
  have hD:∀k∈D.getD i [],jH.getD k false=true:=by
   intro k hk;obtain⟨e,he,hek⟩:=jK.2 k hk;obtain⟨ed,hed,rfl⟩:=qh.1 he;obtain⟨hed1,hed2⟩:=xh.1 hed;have hl:=hedges ed (by simpa using hed1) hed2;rcases hek with rfl|hek
   ·exact hl
   exact hI.closed _ hl k hek
  have hcan:jF y (yZ ops D i) a0=a:=by
   rw[hI.act];refine vS y _ _ a0 vC ?_;rintro ⟨d,j⟩ hq hp;simp only[Bool.not_eq_false',qv,xw] at hp;have hdst:=mem_pairsOf.1 hq;refine hI.open_ j d ?_ hdst;rcases hp with rfl|hw
   ·exact hun
   exact zb0
  by_cases hlast:i=ops.size - 1
  ·-- the last: all others have been jH
   subst hlast
   have hothers:∀d j,ops.size - 1 - j=d→j+1 < ops.size→jH.getD j false=true:=by
    intro d
    induction d using Nat.strongRecOn with
    | ind d ihd=>
     intro j hd hj;have h1:=qu.1 hsink j (qw.2 zo);obtain⟨k,hk,hk2⟩:=List.any_eq_true.1 h1;simp only[zg,zp] at hk2;have hkn:=qw.1 hk;obtain⟨hjk,hwt⟩:=hk2
     cases hok:ops[k]? with
     | none=>simp[hok] at hwt
     | some ok=>
      simp only[hok,Array.any_eq_true'] at hwt;obtain⟨e,he,hb⟩:=hwt;simp only[zg,xw] at hb;rw[← hb.2];by_cases hkl:k=ops.size - 1
      ·subst hkl;rw[ho] at hok;cases hok;exact hedges e he hb.1
      exact hE k ok hok (ihd (ops.size - 1 - k) zo k rfl zo) e he hb.1
   have hfl:=hfin o ho y w hI.grown (λj hj=>hI.facts j (hothers _ j rfl hj)) a hcan.symm
   have hend:∀v w',Q .normal v w'→wpAny P .any ops Q fuel (jH.setIfInBounds (ops.size - 1) true) v w':=by
    intro v w' hq
    have zX:Region.ready .any ops (jH.setIfInBounds (ops.size - 1) true)=[]:=by
     refine List.eq_nil_iff_forall_not_mem.2 λj hj=>?_;obtain⟨hl,o',ho',_⟩:=mem_ready.1 hj;have hjlt:j < ops.size:=(zc.1 ho').1;by_cases hjl:ops.size - 1=j
     ·subst hjl;have h2:ops.size - 1 < jH.size:=(by rw[hI.size];exact hilt);simp[h2] at hl
     rw[getD_set_ne true hjl,zU (by rw[hI.size];exact hjlt),hothers _ j rfl zo] at hl;cases hl
    cases fuel with
    | zero=>exact⟨zX,hq⟩
    | succ f=>exact⟨λ_=>hq,λj hj=>by rw[zX] at hj;cases hj⟩
   unfold wpOp;simp only[ho];split at hfl
   ·rename_i hwa;rw[zl hwa];exact .inl (wp_exit (Oper.wp_mono (λa' w' hq=>hend a' w' hq) hfl))
   rename_i hwa;rw[ze hwa];exact hend _ _ hfl
  have hw:=hop i o zo ho y w hI.grown (λj hj=>hI.facts j (hD j hj)) (λa' w'=>∃v,a'=a.put o.dst v∧R w w'∧Φ i v w');rw[hcan] at hw
  have hlen':((List.range ops.size).filter λj=>!(jH.setIfInBounds i true).getD j true).length≤fuel:=by
   have:((List.range ops.size).filter λj=>!(jH.setIfInBounds i true).getD j true).length < ((List.range ops.size).filter λj=>!jH.getD j true).length:=by
    refine YO _ i (λj hj=>?_) (qw.2 hilt) (by rw[hun];rfl) ?_
    ·exact zb1
    exact zb2
   omega
  have hnext:∀v w',R w w'→Φ i v w'→wpAny P .any ops Q fuel (jH.setIfInBounds i true) (a.put o.dst v) w':=by
   intro v w' hr hφ;have h2:i < jH.size:=by rw[hI.size];exact hilt
   refine ih _ _ _ (λk=>if k=i then v else y k) hlen' ⟨by simp[hI.size],?_,hRt hI.grown hr,?_,?_,?_⟩ ?_ ?_
   ·exact zb3
   ·exact zb4
   ·exact zb5
   ·exact zb6
   ·intro j oj hoj hj e he hb;by_cases hji:j=i
    ·subst hji;rw[ho] at hoj;cases hoj;exact getD_set_true (hedges e he hb)
    rw[getD_set_ne false (Ne.symm hji)] at hj;exact getD_set_true (hE j oj hoj hj e he hb)
   rw[getD_set_ne true hlast];exact hL
  unfold wpOp;simp only[ho];have hw2:=hw (λv w' hr hφ=>⟨v,rfl,hr,hφ⟩);split at hw2
  ·exact zb7
  exact zb8
where
 wp_exit {o:Oper} {a:Act} {w:World} {K:Act→World→Prop} {Q:Exit→Act→World→Prop} (h:o.wp P a w K (λ_ _ _=>False)):o.wp P a w K Q:=by
  unfold Oper.wp at *;generalize (execOp a.eval o).run P w=r at *
  cases r with
  | ok n w'=>
   cases n<;>simp only[Oper.upon] at h⊢
   case enter f args=>
    refine Calls.mono h λe w'' he=>?_
    cases e with
    | returned v=>exact he
    | panicked c=>exact he.elim
    | outgrown=>obtain⟨_,_,hq⟩:=he;exact hq.elim
   all_goals exact h
  | halt x w'=>cases x<;>simp only[Oper.upon] at h
def JS {α:Type} [Inhabited α]:List α→α
 | []=>default
 | [x]=>x
 | _::y::r=>JS (y::r)
theorem eY {α:Type} [Inhabited α]:∀l:List α,JS l=l.getLast?.getD default
 | []=>rfl
 | [x]=>rfl
 | _::y::r=>by rw[JS,eY (y::r),List.getLast?_cons_cons]
theorem vG {id:Nat} {a0:Act} {w0:World} {Q:Exit→Act→World→Prop} (R:World→World→Prop) (D:List (List Nat)) (C:List (List (Nat × Nat))) (Φ:List (Value→World→Prop)) (hm:P.follows .mixedOrders=true)
 (hRt:∀{a b c:World},R a b→R b c→R a c) (hrr:∀w,R w w) (hd:R w0 w0.drew) (hchk:(KJ ops D C (qU ops) && GV ops && decide (0 < ops.size))=true) (hst:stL R Φ)
 (kE:Φ.length+1=ops.size)
 (hop:allW P ops R Φ a0 w0 0 ops.toList.dropLast D C)
 (hfin:∀y w,R w0 w→zV y w 0 Φ→∀K:Act→World→Prop,(∀a' w',Q .normal a' w'→K a' w') →
  if Region.wanted (JS ops.toList) (yielded ops (jF y (JS C) a0).tmps) then (JS ops.toList).wp P (jF y (JS C) a0) w K (λ_ _ _=>False) else K ((jF y (JS C) a0).put (JS ops.toList).dst undef) w)
 (hCl:C.length=ops.size):(Code.region id ops true).wp P Q a0 w0:=by
 simp only[zg,zp] at hchk;obtain⟨⟨hchk,hsink⟩,hpos⟩:=hchk;simp only[KJ,zg,zp,qu,qw] at hchk;obtain⟨⟨h1,h2⟩,h3⟩:=hchk;refine wp_region_any hm ?_;have hwords:=lF (P:=P) (R:=R) (Φ:=Φ) (a0:=a0) (w0:=w0) D C h3;refine iN (R:=R) (D:=D.toArray) (Φ:=λj=>Φ.getD j (λ_ _=>True)) (a0:=a0) (w0:=w0) hRt h1 ?_ hrr (λi o hi ho=>?_) hpos hsink ?_ ops.size _ a0 _ (λj=>match (ops[j]?).bind (·.dst) with | some d=>a0.tmps.getD d undef | none=>undef) ?_ ⟨by simp,?_,hd,?_,?_,?_⟩ ?_ ?_
 ·exact zb16
 ·have hd2:=allW_dropLast D C h3 ops.toList.dropLast 0 D C zp2 zp2 zp2 hop;have:=K4 _ 0 i o hd2 (by rw[List.getElem?_dropLast];simp;exact⟨by omega,ho⟩);simpa using this
 ·intro o ho y w hr hf a ha;subst ha;have hl:ops.toList.getLast? = some o:=by rw[List.getLast?_eq_getElem?];simpa using ho
  have hc:JS C=yZ ops D.toArray (ops.size - 1):=by
   rw[eY,← h3 (ops.size - 1) zo,List.getLast?_eq_getElem?,zw,hCl];rfl
  rw[← hc];have ho2:JS ops.toList=o:=by rw[eY,hl];rfl
  rw[← ho2];exact hfin y w hr (aZ Φ 0 zp2 (λj h=>hf j zo)) _ (λ_ _ h=>h)
 ·exact zb9
 ·exact zb10
 ·exact A5
 ·exact zb12
 ·exact A5
 ·intro j o _ hj
  have h:(Array.replicate ops.size false).getD j false=false:=by
   simp[Array.getD]
  rw[h] at hj;cases hj
 have h2:ops.size - 1 < ops.size:=by omega
 simp[Array.getD,h2]
where
 allW_dropLast {R:World→World→Prop} {Φ:List (Value→World→Prop)} {a0:Act} {w0:World} (D0:List (List Nat)) (C0:List (List (Nat × Nat))) (hC:∀i,i < ops.size→C0.getD i []=yZ ops D0.toArray i) :
  ∀(l:List Oper) (i:Nat) (D:List (List Nat)) (C:List (List (Nat × Nat))),i+l.length≤ops.size→(∀k,D[k]? = D0[i+k]?)→(∀k,C[k]? = C0[i+k]?)→allW P ops R Φ a0 w0 i l D C →
   K2 (cH P ops R D0.toArray (λj=>Φ.getD j (λ_ _=>True)) a0 w0) i l:=by
  intro l
  induction l with
  | nil=>intros;trivial
  | cons o r ih=>
   intro i D C hl hD hC' h
   match D,C,h with
   | d::ds,c::cs,h=>
    obtain⟨h1,h2⟩:=h;refine⟨?_,ih (i+1) ds cs zp24 (λk=>?_) (λk=>?_) h2⟩
    ·exact zb13
    ·exact zb14
    exact zb15
end
theorem Q9 {p:Prop} (hb:b=true) (h:p):if b then p else q:=by rw[zl hb];exact h
theorem jN {p:Prop} (h:p) (hb:b=true:=by rfl):if b then p else q:=Q9 hb h
section
variable {P:Program} {ops:Array Oper}
def rX (P:Program) (ops:Array Oper) (m:Nat) (I:World→Prop) (T:Nat→World→World→Prop) (R:World→World→Prop) (D:Array (List Nat)) (Φ:Nat→(Nat→Value)→Value→World→Prop) (a0:Act) (w0:World) (i:Nat) (o:Oper):Prop:=
 ∀(y:Nat→Value) (w:World),R w0 w→(i=m→I w)→(∀j∈D.getD i [],Φ j y (y j) w)→∀K:Act→World→Prop,
  (∀v w',T i w w'→Φ i y v w'→K ((jF y (yZ ops D i) a0).put o.dst v) w') →
  if Region.wanted o (yielded ops (jF y (yZ ops D i) a0).tmps) then o.wp P (jF y (yZ ops D i) a0) w K (λ_ _ _=>False) else K ((jF y (yZ ops D i) a0).put o.dst undef) w
structure InvFT (ops:Array Oper) (m:Nat) (I:World→Prop) (R:World→World→Prop) (D:Array (List Nat)) (Φ:Nat→(Nat→Value)→Value→World→Prop) (a0:Act) (w0:World) (jH:Array Bool) (a:Act) (w:World) (y:Nat→Value):Prop where
 size:jH.size=ops.size
 act:a=jF y (qU ops) a0
 grown:R w0 w
 pre:jH.getD m false=false→I w
 facts:∀j,jH.getD j false=true→Φ j y (y j) w
 open_:∀j d,jH.getD j true=false→(ops[j]?).bind (·.dst)=some d→a0.put (some d) (y j)=a0
 closed:∀j,jH.getD j false=true→∀k∈D.getD j [],jH.getD k false=true
theorem iO {m:Nat} {I:World→Prop} {T:Nat→World→World→Prop} {R:World→World→Prop} {D:Array (List Nat)} {Φ:Nat→(Nat→Value)→Value→World→Prop} {a0:Act} {w0:World} {Q:Exit→Act→World→Prop}
 (hRt:∀{a b c:World},R a b→R b c→R a c) (hTR:∀i w w',T i w w'→R w w') (hTr:∀i w,T i w w) (hTI:∀i,i≠m→∀w w',T i w w'→I w→I w') (hcg:∀j y y' v w,(∀k∈D.getD j [],y k=y' k)→Φ j y v w→Φ j y' v w) (hchk:KB ops D=true) (hst:∀i j,i≠j→∀y v w w',T i w w'→Φ j y v w→Φ j y v w') (hrr:∀w,R w w)
 (hop:∀i o,ops[i]? = some o→rX P ops m I T R D Φ a0 w0 i o)
 (hfin:∀y w,R w0 w→(∀j,j < ops.size→Φ j y (y j) w)→Q .normal (jF y (qU ops) a0) w) :
 ∀(fuel:Nat) (jH:Array Bool) (a:Act) (w:World) (y:Nat→Value),((List.range ops.size).filter λj=>!jH.getD j true).length≤fuel →
  InvFT ops m I R D Φ a0 w0 jH a w y→wpAny P .any ops Q fuel jH a w:=by
 simp only[KB,zg,qu,qw] at hchk;obtain⟨vC,yU⟩:=hchk
 -- nothing ready: all has been jH
 have qG:∀(jH:Array Bool),jH.size=ops.size→Region.ready .any ops jH=[]→∀j,j < ops.size→jH.getD j false=true:=by
  intro jH hs zX j
  induction j using Nat.strongRecOn with
  | ind j ih=>
   intro hj
   cases hl:jH.getD j false with
   | true=>rfl
   | false=>
    exfalso
    have hmem:j∈Region.ready .any ops jH:=by
     rw[mem_ready];refine⟨by rw[zU zo];exact hl,ops[j],qx hj,λe he hb=>?_⟩;have jK:=yU j hj;rw[qx hj] at jK;simp only[zg,qu,zp] at jK;have hlt:=jK.1 e.on (qh.2 ⟨e,xh.2 ⟨by simpa using he,hb⟩,rfl⟩);exact ih e.on hlt zo
    rw[zX] at hmem;cases hmem
 have hdone:∀(jH:Array Bool) (a:Act) (w:World) (y:Nat→Value),InvFT ops m I R D Φ a0 w0 jH a w y→Region.ready .any ops jH=[]→Q .normal a w:=by
  intro jH a w y hI zX;rw[hI.act];exact hfin y w hI.grown (λj hj=>hI.facts j (qG jH hI.size zX j hj))
 intro fuel
 induction fuel with
 | zero=>
  intro jH a w y kE hI
  have zX:Region.ready .any ops jH=[]:=by
   have h0:((List.range ops.size).filter λj=>!jH.getD j true)=[]:=List.length_eq_zero_iff.1 zo;refine List.eq_nil_iff_forall_not_mem.2 λj hj=>?_;have hj':=mem_ready.1 hj
   have:j∈((List.range ops.size).filter λj=>!jH.getD j true):=by
    obtain⟨hl,o,ho,_⟩:=hj';exact xh.2 ⟨qw.2 (zc.1 ho).1,by simp[hl]⟩
   rw[h0] at this;cases this
  exact⟨zX,hdone jH a w y hI zX⟩
 | succ fuel ih=>
  intro jH a w y kE hI;refine⟨hdone jH a w y hI,λi hi=>?_⟩;obtain⟨hun,o,ho,hedges⟩:=mem_ready.1 hi;have hilt:i < ops.size:=(zc.1 ho).1;have hunf:jH.getD i false=false:=by rw[← zU zp27];exact hun
  have jK:=yU i hilt;rw[ho] at jK;simp only[zg,qu,zp,List.any_eq_true,qv,xw,List.contains_iff_mem] at jK
  -- what i lD for has been jH
  have hD:∀k∈D.getD i [],jH.getD k false=true:=by
   intro k hk;obtain⟨e,he,hek⟩:=jK.2 k hk;obtain⟨ed,hed,rfl⟩:=qh.1 he;obtain⟨hed1,hed2⟩:=xh.1 hed;have hl:=hedges ed (by simpa using hed1) hed2;rcases hek with rfl|hek
   ·exact hl
   exact hI.closed _ hl k hek
  have hcan:jF y (yZ ops D i) a0=a:=by
   rw[hI.act];refine vS y _ _ a0 vC ?_;rintro ⟨d,j⟩ hq hp;simp only[Bool.not_eq_false',qv,xw] at hp;have hdst:=mem_pairsOf.1 hq;refine hI.open_ j d ?_ hdst;rcases hp with rfl|hw
   ·exact hun
   exact zb0
  have hw:=hop i o ho y w hI.grown (λe=>hI.pre (by rw[← e];exact hunf)) (λj hj=>hI.facts j (hD j hj)) (λa' w'=>∃v,a'=a.put o.dst v∧T i w w'∧Φ i y v w');rw[hcan] at hw
  have hlen':((List.range ops.size).filter λj=>!(jH.setIfInBounds i true).getD j true).length≤fuel:=by
   have:((List.range ops.size).filter λj=>!(jH.setIfInBounds i true).getD j true).length < ((List.range ops.size).filter λj=>!jH.getD j true).length:=by
    refine YO _ i (λj hj=>?_) (qw.2 hilt) (by rw[hun];rfl) ?_
    ·exact zb1
    exact zb2
   omega
  have hnext:∀v w',T i w w'→Φ i y v w'→wpAny P .any ops Q fuel (jH.setIfInBounds i true) (a.put o.dst v) w':=by
   intro v w' hr0 hφ;have hr:R w w':=hTR _ _ _ hr0
   have hag:∀j,jH.getD j false=true∨j=i→∀k∈D.getD j [],y k=(if k=i then v else y k):=by
    intro j hj k hk
    have hkl:jH.getD k false=true:=by
     rcases hj with hj|hj
     ·exact hI.closed j hj k hk
     rw[hj] at hk;exact hD k hk
    have hki:k≠i:=λe=>by rw[e,hunf] at hkl;cases hkl
    rw[ze hki]
   have h2:i < jH.size:=by rw[hI.size];exact hilt
   refine ih _ _ _ (λk=>if k=i then v else y k) hlen' ⟨by simp[hI.size],?_,hRt hI.grown hr,λhm=>?_,?_,?_,?_⟩
   ·exact zb3
   ·by_cases him:i=m
    ·subst him;simp[h2] at hm
    rw[getD_set_ne false him] at hm;exact hTI i him _ _ hr0 (hI.pre hm)
   ·intro j hj;by_cases hji:j=i
    ·subst hji;rw[zl rfl];exact hcg j y _ v w' (hag j (.inr rfl)) hφ
    rw[ze hji];rw[getD_set_ne false (Ne.symm hji)] at hj;exact hcg j y _ (y j) w' (hag j (.inl hj)) (hst i j (Ne.symm hji) y _ _ _ hr0 (hI.facts j hj))
   ·exact zb5
   exact zb6
  unfold wpOp;simp only[ho];have hw2:=hw (λv w' hr hφ=>⟨v,rfl,hr,hφ⟩);split at hw2
  ·exact zb7
  exact zb8
where
 wp_exit {o:Oper} {a:Act} {w:World} {K:Act→World→Prop} {Q:Exit→Act→World→Prop} (h:o.wp P a w K (λ_ _ _=>False)):o.wp P a w K Q:=by
  unfold Oper.wp at *;generalize (execOp a.eval o).run P w=r at *
  cases r with
  | ok n w'=>
   cases n<;>simp only[Oper.upon] at h⊢
   case enter f args=>
    refine Calls.mono h λe w'' he=>?_
    cases e with
    | returned v=>exact he
    | panicked c=>exact he.elim
    | outgrown=>obtain⟨_,_,hq⟩:=he;exact hq.elim
   all_goals exact h
  | halt x w'=>cases x<;>simp only[Oper.upon] at h
theorem eZ {id:Nat} {a0:Act} {w0:World} {Q:Exit→Act→World→Prop} (R:World→World→Prop) (m:Nat) (I:World→Prop) (T:Nat→World→World→Prop) (D:Array (List Nat)) (Φ:Nat→(Nat→Value)→Value→World→Prop) (hm:P.follows .mixedOrders=true)
 (hRt:∀{a b c:World},R a b→R b c→R a c) (hrr:∀w,R w w) (hTR:∀i w w',T i w w'→R w w') (hTr:∀i w,T i w w) (hTI:∀i,i≠m→∀w w',T i w w'→I w→I w') (hcg:∀j y y' v w,(∀k∈D.getD j [],y k=y' k)→Φ j y v w→Φ j y' v w) (hI0:I w0.drew) (hd:R w0 w0.drew) (hchk:KB ops D=true) (hst:∀i j,i≠j→∀y v w w',T i w w'→Φ j y v w→Φ j y v w')
 (hop:K2 (rX P ops m I T R D Φ a0 w0) 0 ops.toList)
 (hfin:∀y w,R w0 w→(∀j,j < ops.size→Φ j y (y j) w)→Q .normal (jF y (qU ops) a0) w):(Code.region id ops true).wp P Q a0 w0:=by
 refine wp_region_any hm ?_;refine iO (m:=m) (I:=I) (T:=T) (R:=R) (D:=D) (Φ:=Φ) (a0:=a0) (w0:=w0) hRt hTR hTr hTI hcg hchk hst hrr (λi o ho=>?_) hfin ops.size _ a0 _ (λj=>match (ops[j]?).bind (·.dst) with | some d=>a0.tmps.getD d undef | none=>undef) ?_ ⟨by simp,?_,hd,λ_=>hI0,?_,?_,?_⟩
 ·have:=K4 _ 0 i o hop (by simpa using ho);simpa using this
 ·exact zb9
 ·exact zb10
 ·exact A5
 ·exact zb12
 exact A5
def lG (Φ:List ((Nat→Value)→Value→World→Prop)) (y:Nat→Value) (w:World):List Nat→Prop
 | []=>True
 | j::r=>Φ.getD j (λ_ _ _=>True) y (y j) w∧lG Φ y w r
theorem uA {Φ:List ((Nat→Value)→Value→World→Prop)} {y:Nat→Value} {w:World}:∀(d:List Nat),(∀j∈d,Φ.getD j (λ_ _ _=>True) y (y j) w)→lG Φ y w d
 | [],_=>trivial
 | j::r,h=>⟨h j zp2,uA r (λk hk=>h k (by simp[hk]))⟩
def rY (y:Nat→Value) (w:World):Nat→List ((Nat→Value)→Value→World→Prop)→Prop
 | _,[]=>True
 | i,φ::r=>φ y (y i) w∧rY y w (i+1) r
theorem oP {Φ0:List ((Nat→Value)→Value→World→Prop)} {y:Nat→Value} {w:World}:∀(Φ:List ((Nat→Value)→Value→World→Prop)) (i:Nat),(∀k,Φ[k]? = Φ0[i+k]?)→(∀j,j < i+Φ.length→Φ0.getD j (λ_ _ _=>True) y (y j) w)→rY y w i Φ
 | [],_,_,_=>trivial
 | φ::r,i,h,hj=>by
  refine⟨?_,oP r (i+1) (λk=>?_) (λj hj'=>hj j zp6)⟩
  ·have h0:=hj i zp2;have:=h 0;simp at this;simpa [zw,← this] using h0
  have:=h (k+1);simp at this;rw[this];congr 1;omega
def wordT (P:Program) (ops:Array Oper) (m:Nat) (I:World→Prop) (T:Nat→World→World→Prop) (R:World→World→Prop) (Φ:List ((Nat→Value)→Value→World→Prop)) (a0:Act) (w0:World) (i:Nat) (o:Oper) (d:List Nat) (c:List (Nat × Nat)):Prop:=
 ∀(y:Nat→Value) (w:World),R w0 w→(i=m→I w)→lG Φ y w d→∀K:Act→World→Prop,
  (∀a' v w',a'=(jF y c a0).put o.dst v→T i w w'→Φ.getD i (λ_ _ _=>True) y v w'→K a' w') →
  if Region.wanted o (yielded ops (jF y c a0).tmps) then o.wp P (jF y c a0) w K (λ_ _ _=>False) else K ((jF y c a0).put o.dst undef) w
def allWT (P:Program) (ops:Array Oper) (m:Nat) (I:World→Prop) (T:Nat→World→World→Prop) (R:World→World→Prop) (Φ:List ((Nat→Value)→Value→World→Prop)) (a0:Act) (w0:World):Nat→List Oper→List (List Nat)→List (List (Nat × Nat))→Prop
 | _,[],_,_=>True
 | i,o::r,d::ds,c::cs=>wordT P ops m I T R Φ a0 w0 i o d c∧allWT P ops m I T R Φ a0 w0 (i+1) r ds cs
 | _,_::_,_,_=>False
theorem uB {m:Nat} {I:World→Prop} {T:Nat→World→World→Prop} {R:World→World→Prop} {Φ:List ((Nat→Value)→Value→World→Prop)} {a0:Act} {w0:World} (D0:List (List Nat)) (C0:List (List (Nat × Nat))) (hC:∀i,i < ops.size→C0.getD i []=yZ ops D0.toArray i) :
 ∀(l:List Oper) (i:Nat) (D:List (List Nat)) (C:List (List (Nat × Nat))),i+l.length=ops.size→(∀k,D[k]? = D0[i+k]?)→(∀k,C[k]? = C0[i+k]?)→allWT P ops m I T R Φ a0 w0 i l D C →
  K2 (rX P ops m I T R D0.toArray (λj=>Φ.getD j (λ_ _ _=>True)) a0 w0) i l:=by
 intro l
 induction l with
 | nil=>intros;trivial
 | cons o r ih=>
  intro i D C hl hD hC' h
  match D,C,h with
  | d::ds,c::cs,h=>
   obtain⟨h1,h2⟩:=h;refine⟨?_,ih (i+1) ds cs zp24 (λk=>?_) (λk=>?_) h2⟩
   ·have hd:D0.toArray.getD i []=d:=by
     have:=hD 0;simp at this;simp[Array.getD_eq_getD_getElem?,← this]
    have hc:yZ ops D0.toArray i=c:=by
     rw[← hC i zp24];have:=hC' 0;simp at this;simp[zw,← this]
    intro y w hR hi hj K hK;rw[hd] at hj;rw[hc] at hK⊢;exact h1 y w hR hi (uA _ hj) K (λa' v w' he hr hφ=>by subst he;exact hK v w' hr hφ)
   ·exact zb14
   exact zb15
def stLT (T:Nat→World→World→Prop):Nat→List ((Nat→Value)→Value→World→Prop)→Prop
 | _,[]=>True
 | j,φ::r=>(∀i,i≠j→∀y v w w',T i w w'→φ y v w→φ y v w')∧stLT T (j+1) r
theorem uC {T:Nat→World→World→Prop}:∀(Φ:List ((Nat→Value)→Value→World→Prop)) (j:Nat),stLT T j Φ→∀k φ,Φ[k]? = some φ→∀i,i≠j+k→∀y v w w',T i w w'→φ y v w→φ y v w'
 | φ::r,j,h,0,ψ,hk=>by
  simp at hk;subst hk;exact h.1
 | φ::r,j,h,k+1,ψ,hk=>by
  intro i hi y v w w' hr;exact uC r (j+1) h.2 k ψ (by simpa using hk) i zo y v w w' hr
def cgLT (D:List (List Nat)):Nat→List ((Nat→Value)→Value→World→Prop)→Prop
 | _,[]=>True
 | j,φ::r=>(∀y y' v w,(∀k∈D.getD j [],y k=y' k)→φ y v w→φ y' v w)∧cgLT D (j+1) r
theorem uD {D:List (List Nat)}:∀(Φ:List ((Nat→Value)→Value→World→Prop)) (j:Nat),cgLT D j Φ→∀k φ,Φ[k]? = some φ→∀y y' v w,(∀q∈D.getD (j+k) [],y q=y' q)→φ y v w→φ y' v w
 | φ::r,j,h,0,ψ,hk=>by
  simp at hk;subst hk;exact h.1
 | φ::r,j,h,k+1,ψ,hk=>by
  intro y y' v w hq;exact uD r (j+1) h.2 k ψ (by simpa using hk) y y' v w (by rw[show j+1+k=j+(k+1) by omega];exact hq)
theorem dJ {id:Nat} {a0:Act} {w0:World} {Q:Exit→Act→World→Prop} (R:World→World→Prop) (m:Nat) (I:World→Prop) (T:Nat→World→World→Prop) (D:List (List Nat)) (C:List (List (Nat × Nat))) (F:List (Nat × Nat)) (Φ:List ((Nat→Value)→Value→World→Prop)) (hm:P.follows .mixedOrders=true)
 (hRt:∀{a b c:World},R a b→R b c→R a c) (hrr:∀w,R w w) (hTR:∀i w w',T i w w'→R w w') (hTr:∀i w,T i w w) (hTI:∀i,i≠m→∀w w',T i w w'→I w→I w') (hI0:I w0.drew) (hd:R w0 w0.drew) (hchk:KJ ops D C F=true) (hst:stLT T 0 Φ) (hcg:cgLT D 0 Φ)
 (hop:allWT P ops m I T R Φ a0 w0 0 ops.toList D C)
 (kE:Φ.length=ops.size)
 (hfin:∀y w,R w0 w→rY y w 0 Φ→Q .normal (jF y F a0) w):(Code.region id ops true).wp P Q a0 w0:=by
 simp only[KJ,zg,zp,qu,qw] at hchk;obtain⟨⟨h1,h2⟩,h3⟩:=hchk;subst h2;refine eZ R m I T D.toArray (λj=>Φ.getD j (λ_ _ _=>True)) hm hRt hrr hTR hTr hTI ?_ hI0 hd h1 ?_ (uB D C h3 ops.toList 0 D C zp2 zp2 zp2 hop) (λy w hr hj=>hfin y w hr (oP Φ 0 zp2 (λj h=>hj j (by rw[← kE];simpa using h))))
 ·intro j y y' v w hk hφ;rcases Nat.lt_or_ge j Φ.length with hj|hj
  ·have e:Φ.getD j (λ_ _ _=>True)=Φ[j]:=by simp[zw,hj]
   rw[e] at hφ⊢;refine uD Φ 0 hcg j _ (za hj) y y' v w ?_ hφ;intro q hq;refine hk q ?_;rw[Nat.zero_add] at hq;simpa [Array.getD_eq_getD_getElem?,zw] using hq
  have e:Φ.getD j (λ_ _ _=>True)=λ_ _ _=>True:=by simp[zw,hj]
  rw[e];trivial
 intro i j hij y v w w' hr hφ;rcases Nat.lt_or_ge j Φ.length with hj|hj
 ·have e:Φ.getD j (λ_ _ _=>True)=Φ[j]:=by simp[zw,hj]
  rw[e] at hφ⊢;exact uC Φ 0 hst j _ (za hj) i (by rw[Nat.zero_add];exact hij) y v w w' hr hφ
 have e:Φ.getD j (λ_ _ _=>True)=λ_ _ _=>True:=by simp[zw,hj]
 rw[e];trivial
end
section
variable {P:Program} {ops:Array Oper}
end
section
variable {P:Program} {ops:Array Oper}
def y8 (jH:Array Bool):List Nat→Nat
 | []=>0
 | m::r=>if jH.getD m false=true then y8 jH r+1 else 0
theorem QQ (jH:Array Bool):∀ms:List Nat,y8 jH ms≤ms.length
 | []=>zr _
 | m::r=>by
  unfold y8;split
  ·have:=QQ jH r;simp;exact this
  simp
theorem bF {jH:Array Bool}:∀{ms:List Nat} {k m:Nat},ms[k]? = some m→k < y8 jH ms→jH.getD m false=true
 | [],k,m,h,_=>by simp at h
 | x::r,0,m,h,hk=>by
  simp at h;subst h;unfold y8 at hk;split at hk
  ·assumption
  ·omega
 | x::r,k+1,m,h,hk=>by
  unfold y8 at hk;split at hk
  ·exact bF (ms:=r) tZ zo
  omega
theorem ZL {jH:Array Bool}:∀{ms:List Nat} {p:Nat},p≤ms.length→(∀k m,k < p→ms[k]? = some m→jH.getD m false=true)→p≤y8 jH ms
 | [],p,h,_=>by simp at h;omega
 | x::r,0,_,_=>Nat.zero_le _
 | x::r,p+1,h,hp=>by
  unfold y8;rw[zl (hp 0 x zo rfl)];have:=ZL (jH:=jH) (ms:=r) (p:=p) tZ (λk m hk hm=>hp (k+1) m zo (by simpa using hm));omega
theorem fA {jH:Array Bool} {ms:List Nat} {k m:Nat} (hm:ms[k]? = some m) (hu:jH.getD m false=false):y8 jH ms≤k:=by
 rcases Nat.lt_or_ge k (y8 jH ms) with h|h
 ·have:=bF hm h;rw[hu] at this;cases this
 exact h
def VA (D:List (List Nat)) (n:Nat):List Nat→Bool
 | []=>true
 | m::r=>decide (m < n) && r.all (λb=>(D.getD b []).contains m) && VA D n r
theorem ZM {D:List (List Nat)} {n:Nat}:∀{ms:List Nat},VA D n ms=true→∀{a b x y:Nat},a < b→ms[a]? = some x→ms[b]? = some y→x∈D.getD y []
 | m::r,h,0,b+1,x,y,_,hx,hy=>by
  simp only[VA,zg,qu] at h;simp at hx hy;subst hx;have:=h.1.2 y (qd hy);simpa using this
 | m::r,h,a+1,b+1,x,y,hab,hx,hy=>by
  simp only[VA,zg] at h;exact ZM (ms:=r) (a:=a) (b:=b) h.2 zo eV (by simpa using hy)
theorem oQ {D:List (List Nat)} {n:Nat}:∀{ms:List Nat},VA D n ms=true→∀{a x:Nat},ms[a]? = some x→x < n
 | m::r,h,0,x,hx=>by
  simp only[VA,zg,zp] at h;simp at hx;subst hx;exact h.1.1
 | m::r,h,a+1,x,hx=>by
  simp only[VA,zg] at h;exact oQ (ms:=r) h.2 eV
structure t6 (ms:List Nat) (D:List (List Nat)) (i p:Nat):Prop where
 at_:∀k,ms[k]? = some i→p=k
 lo:∀k m,ms[k]? = some m→m∈D.getD i []→k < p
 hi:∀k m,ms[k]? = some m→i∈D.getD m []→p≤k
 le:p≤ms.length
def DA (ms:List Nat) (W:Nat→World→Prop) (S:Nat→World→World→Prop) (T:Nat→(Nat→Value)→World→World→Prop) (φ:Nat→Value→World→Prop) (i p:Nat) (y:Nat→Value) (v:Value) (w w':World):Prop:=
 (i∈ms→T p y w w'∧W (p+1) w'∧φ (p+1) v w')∧(i∉ms→S p w w'∧φ p v w')
def DB (P:Program) (ops:Array Oper) (ms:List Nat) (W:Nat→World→Prop) (S:Nat→World→World→Prop) (T:Nat→(Nat→Value)→World→World→Prop) (D:List (List Nat)) (Φ:Nat→Nat→Value→World→Prop) (a0:Act) (i:Nat) (o:Oper):Prop:=
 ∀(y:Nat→Value) (w:World) (p:Nat),t6 ms D i p→W p w→(∀j∈D.getD i [],Φ j p (y j) w)→∀K:Act→World→Prop,
  (∀v w',DA ms W S T (Φ i) i p y v w w'→K ((jF y (yZ ops D.toArray i) a0).put o.dst v) w') →
  if Region.wanted o (yielded ops (jF y (yZ ops D.toArray i) a0).tmps) then o.wp P (jF y (yZ ops D.toArray i) a0) w K (λ_ _ _=>False) else K ((jF y (yZ ops D.toArray i) a0).put o.dst undef) w
structure InvFP (ops:Array Oper) (ms:List Nat) (W:Nat→World→Prop) (D:Array (List Nat)) (Φ:Nat→Nat→Value→World→Prop) (a0:Act) (jH:Array Bool) (a:Act) (w:World) (y:Nat→Value):Prop where
 size:jH.size=ops.size
 act:a=jF y (qU ops) a0
 pre:W (y8 jH ms) w
 facts:∀j,jH.getD j false=true→Φ j (y8 jH ms) (y j) w
 open_:∀j d,jH.getD j true=false→(ops[j]?).bind (·.dst)=some d→a0.put (some d) (y j)=a0
 closed:∀j,jH.getD j false=true→∀k∈D.getD j [],jH.getD k false=true
theorem GW (D:List (List Nat)) (i:Nat):D.toArray.getD i []=D.getD i []:=by simp[Array.getD_eq_getD_getElem?,zw]
theorem iP {ms:List Nat} {W:Nat→World→Prop} {S:Nat→World→World→Prop} {T:Nat→(Nat→Value)→World→World→Prop} {Dl:List (List Nat)} {D:Array (List Nat)} (hDl:D=Dl.toArray) {Φ:Nat→Nat→Value→World→Prop} {a0:Act} {Q:Exit→Act→World→Prop}
 (hchk:KB ops D=true) (hch:VA Dl ops.size ms=true) (hSW:∀p w w',S p w w'→W p w→W p w') (hSΦ:∀j p v w w',S p w w'→Φ j p v w→Φ j p v w') (hTΦ:∀j p (y:Nat→Value) w w',T p y w w'→Φ j p (y j) w→Φ j (p+1) (y j) w')
 (hop:∀i o,ops[i]? = some o→DB P ops ms W S T Dl Φ a0 i o)
 (hfin:∀y w,W ms.length w→(∀j,j < ops.size→Φ j ms.length (y j) w)→Q .normal (jF y (qU ops) a0) w) :
 ∀(fuel:Nat) (jH:Array Bool) (a:Act) (w:World) (y:Nat→Value),((List.range ops.size).filter λj=>!jH.getD j true).length≤fuel →
  InvFP ops ms W D Φ a0 jH a w y→wpAny P .any ops Q fuel jH a w:=by
 simp only[KB,zg,qu,qw] at hchk;obtain⟨vC,yU⟩:=hchk
 -- nothing ready: all has been jH
 have qG:∀(jH:Array Bool),jH.size=ops.size→Region.ready .any ops jH=[]→∀j,j < ops.size→jH.getD j false=true:=by
  intro jH hs zX j
  induction j using Nat.strongRecOn with
  | ind j ih=>
   intro hj
   cases hl:jH.getD j false with
   | true=>rfl
   | false=>
    exfalso
    have hmem:j∈Region.ready .any ops jH:=by
     rw[mem_ready];refine⟨by rw[zU zo];exact hl,ops[j],qx hj,λe he hb=>?_⟩;have jK:=yU j hj;rw[qx hj] at jK;simp only[zg,qu,zp] at jK;have hlt:=jK.1 e.on (qh.2 ⟨e,xh.2 ⟨by simpa using he,hb⟩,rfl⟩);exact ih e.on hlt zo
    rw[zX] at hmem;cases hmem
 have hdone:∀(jH:Array Bool) (a:Act) (w:World) (y:Nat→Value),InvFP ops ms W D Φ a0 jH a w y→Region.ready .any ops jH=[]→Q .normal a w:=by
  intro jH a w y hI zX;rw[hI.act];have hp:y8 jH ms=ms.length:=Nat.le_antisymm (QQ _ _) (ZL (zr _) λk m hk hm=>qG jH hI.size zX m (oQ hch hm));have hpre:=hI.pre;rw[hp] at hpre;refine hfin y w hpre (λj hj=>?_);have:=hI.facts j (qG jH hI.size zX j hj)
  rwa [hp] at this
 intro fuel
 induction fuel with
 | zero=>
  intro jH a w y kE hI
  have zX:Region.ready .any ops jH=[]:=by
   have h0:((List.range ops.size).filter λj=>!jH.getD j true)=[]:=List.length_eq_zero_iff.1 zo;refine List.eq_nil_iff_forall_not_mem.2 λj hj=>?_;have hj':=mem_ready.1 hj
   have:j∈((List.range ops.size).filter λj=>!jH.getD j true):=by
    obtain⟨hl,o,ho,_⟩:=hj';exact xh.2 ⟨qw.2 (zc.1 ho).1,by simp[hl]⟩
   rw[h0] at this;cases this
  exact⟨zX,hdone jH a w y hI zX⟩
 | succ fuel ih=>
  intro jH a w y kE hI;refine⟨hdone jH a w y hI,λi hi=>?_⟩;obtain⟨hun,o,ho,hedges⟩:=mem_ready.1 hi;have hilt:i < ops.size:=(zc.1 ho).1;have hunf:jH.getD i false=false:=by rw[← zU zp27];exact hun
  have jK:=yU i hilt;rw[ho] at jK;simp only[zg,qu,zp,List.any_eq_true,qv,xw,List.contains_iff_mem] at jK
  -- what i lD for has been jH
  have hD:∀k∈D.getD i [],jH.getD k false=true:=by
   intro k hk;obtain⟨e,he,hek⟩:=jK.2 k hk;obtain⟨ed,hed,rfl⟩:=qh.1 he;obtain⟨hed1,hed2⟩:=xh.1 hed;have hl:=hedges ed (by simpa using hed1) hed2;rcases hek with rfl|hek
   ·exact hl
   exact hI.closed _ hl k hek
  have hcan:jF y (yZ ops D i) a0=a:=by
   rw[hI.act];refine vS y _ _ a0 vC ?_;rintro ⟨d,j⟩ hq hp;simp only[Bool.not_eq_false',qv,xw] at hp;have hdst:=mem_pairsOf.1 hq;refine hI.open_ j d ?_ hdst;rcases hp with rfl|hw
   ·exact hun
   exact zb0
  have hDe:∀j,D.getD j []=Dl.getD j []:=λj=>by rw[hDl];exact GW _ _
  have hle:=QQ jH ms
  have hat:∀k,ms[k]? = some i→y8 jH ms=k:=λk hk=>
   Nat.le_antisymm (fA hk hunf) (ZL (by have:=(zi.1 hk).1;omega) λa m ha hm=>hD m (by rw[hDe];exact ZM hch ha hm hk))
  have hph:t6 ms Dl i (y8 jH ms):=by
   refine⟨hat,λk m hm hmi=>?_,λk m hm hmi=>?_,hle⟩
   ·have hl:=hD m (by rw[hDe];exact hmi)
    have:k+1≤y8 jH ms:=ZL (by have:=(zi.1 hm).1;omega) λa q ha hq=>by
     rcases Nat.lt_or_ge a k with h|h
     ·exact hI.closed m hl q (by rw[hDe];exact ZM hch h hq hm)
     have:a=k:=(by omega);subst this;rw[hm] at hq;cases hq;exact hl
    omega
   refine fA hm ?_
   cases hl:jH.getD m false with
   | false=>rfl
   | true=>
    have:=hI.closed m hl i (by rw[hDe];exact hmi);rw[hunf] at this;cases this
  have hw:=hop i o ho y w _ hph hI.pre (λj hj=>hI.facts j (hD j (by rw[hDe];exact hj))) (λa' w'=>∃v,a'=a.put o.dst v∧DA ms W S T (Φ i) i (y8 jH ms) y v w w');rw[← hDl,hcan] at hw
  have hlen':((List.range ops.size).filter λj=>!(jH.setIfInBounds i true).getD j true).length≤fuel:=by
   have:((List.range ops.size).filter λj=>!(jH.setIfInBounds i true).getD j true).length < ((List.range ops.size).filter λj=>!jH.getD j true).length:=by
    refine YO _ i (λj hj=>?_) (qw.2 hilt) (by rw[hun];rfl) ?_
    ·exact zb1
    exact zb2
   omega
  have hnext:∀v w',DA ms W S T (Φ i) i (y8 jH ms) y v w w'→wpAny P .any ops Q fuel (jH.setIfInBounds i true) (a.put o.dst v) w':=by
   intro v w' hr0;have h2:i < jH.size:=by rw[hI.size];exact hilt
   have hset:∀j,(jH.setIfInBounds i true).getD j false=true→j≠i→jH.getD j false=true:=λj hj hne=>by rwa [getD_set_ne false (Ne.symm hne)] at hj
   have hsub:∀j,jH.getD j false=true→(jH.setIfInBounds i true).getD j false=true:=λj hj=>getD_set_true hj
   -- the phase behind the step
   have hphase:W (y8 (jH.setIfInBounds i true) ms) w'∧(∀j,jH.getD j false=true→Φ j (y8 (jH.setIfInBounds i true) ms) (y j) w')∧Φ i (y8 (jH.setIfInBounds i true) ms) v w':=by
    by_cases hmem:i∈ms
    ·obtain⟨k,hk⟩:=List.getElem?_of_mem hmem;have hpk:=hat k hk;obtain⟨hT,hW,hφ⟩:=hr0.1 hmem
     have hn:y8 (jH.setIfInBounds i true) ms=y8 jH ms+1:=by
      refine Nat.le_antisymm ?_ (ZL (by have:=(zi.1 hk).1;omega) λa m ha hm=>?_)
      ·rcases Nat.lt_or_ge (k+1) ms.length with hl|hl
       ·rw[hpk];refine fA (za hl) ?_
        have hne:ms[k+1]≠i:=λe=>by
         have h3:=ZM hch (Nat.lt_succ_self k) hk (za hl);rw[e] at h3;have h4:=hD i (by rw[hDe];exact h3);rw[hunf] at h4;cases h4
        rw[getD_set_ne false (Ne.symm hne)]
        cases hl2:jH.getD ms[k+1] false with
        | false=>rfl
        | true=>
         have h4:=hI.closed _ hl2 i (by rw[hDe];exact ZM hch (Nat.lt_succ_self k) hk (za hl));rw[hunf] at h4;cases h4
       have:=QQ (jH.setIfInBounds i true) ms;omega
      rcases Nat.lt_or_ge a k with h|h
      ·exact hsub m (hD m (by rw[hDe];exact ZM hch h hm hk))
      have:a=k:=(by omega);subst this;rw[hk] at hm;cases hm;simp[h2]
     rw[hn];exact⟨hW,λj hj=>hTΦ _ _ _ _ _ hT (hI.facts j hj),hφ⟩
    obtain⟨hS,hφ⟩:=hr0.2 hmem
    have hn:y8 (jH.setIfInBounds i true) ms=y8 jH ms:=by
     refine Nat.le_antisymm ?_ (ZL hle λa m ha hm=>hsub m (bF hm ha));refine ZL (QQ _ _) λa m ha hm=>hset m (bF hm ha) (λe=>hmem (by rw[← e];exact qd hm))
    rw[hn];exact⟨hSW _ _ _ hS hI.pre,λj hj=>hSΦ _ _ _ _ _ hS (hI.facts j hj),hφ⟩
   refine ih _ _ _ (λk=>if k=i then v else y k) hlen' ⟨by simp[hI.size],?_,hphase.1,?_,?_,?_⟩
   ·exact zb3
   ·intro j hj;by_cases hji:j=i
    ·subst hji;rw[zl rfl];exact hphase.2.2
    rw[ze hji];exact hphase.2.1 j (hset j hj hji)
   ·exact zb5
   intro j hj k hk;by_cases hji:j=i
   ·subst hji;exact getD_set_true (hD k hk)
   exact getD_set_true (hI.closed j (hset j hj hji) k hk)
  unfold wpOp;simp only[ho];have hw2:=hw (λv w' hr=>⟨v,rfl,hr⟩);split at hw2
  ·rename_i hwa;rw[zl hwa];refine .inl ?_
   have h3:o.wp P a w (wpAny P .any ops Q fuel (jH.setIfInBounds i true)) (λ_ _ _=>False):=
    Oper.wp_mono (λa' w' ⟨v,he,hr⟩=>by subst he;exact hnext v w' hr) hw2
   exact wp_exit h3
  rename_i hwa;rw[ze hwa];obtain⟨v,he,hr⟩:=hw2;rw[he];exact hnext v w hr
where
 wp_exit {o:Oper} {a:Act} {w:World} {K:Act→World→Prop} {Q:Exit→Act→World→Prop} (h:o.wp P a w K (λ_ _ _=>False)):o.wp P a w K Q:=by
  unfold Oper.wp at *;generalize (execOp a.eval o).run P w=r at *
  cases r with
  | ok n w'=>
   cases n<;>simp only[Oper.upon] at h⊢
   case enter f args=>
    refine Calls.mono h λe w'' he=>?_
    cases e with
    | returned v=>exact he
    | panicked c=>exact he.elim
    | outgrown=>obtain⟨_,_,hq⟩:=he;exact hq.elim
   all_goals exact h
  | halt x w'=>cases x<;>simp only[Oper.upon] at h
def kV (Φ:List (Nat→Value→World→Prop)) (y:Nat→Value) (w:World) (p:Nat):List Nat→Prop
 | []=>True
 | j::r=>Φ.getD j (λ_ _ _=>True) p (y j) w∧kV Φ y w p r
theorem uE {Φ:List (Nat→Value→World→Prop)} {y:Nat→Value} {w:World} {p:Nat}:∀(d:List Nat),(∀j∈d,Φ.getD j (λ_ _ _=>True) p (y j) w)→kV Φ y w p d
 | [],_=>trivial
 | j::r,h=>⟨h j zp2,uE r (λk hk=>h k (by simp[hk]))⟩
def yR (y:Nat→Value) (w:World) (p:Nat):Nat→List (Nat→Value→World→Prop)→Prop
 | _,[]=>True
 | i,φ::r=>φ p (y i) w∧yR y w p (i+1) r
theorem oR {Φ0:List (Nat→Value→World→Prop)} {y:Nat→Value} {w:World} {p:Nat}:∀(Φ:List (Nat→Value→World→Prop)) (i:Nat),(∀k,Φ[k]? = Φ0[i+k]?)→(∀j,j < i+Φ.length→Φ0.getD j (λ_ _ _=>True) p (y j) w)→yR y w p i Φ
 | [],_,_,_=>trivial
 | φ::r,i,h,hj=>by
  refine⟨?_,oR r (i+1) (λk=>?_) (λj hj'=>hj j zp6)⟩
  ·have h0:=hj i zp2;have:=h 0;simp at this;simpa [zw,← this] using h0
  have:=h (k+1);simp at this;rw[this];congr 1;omega
structure A8 (P:Program) (ops:Array Oper) (ms:List Nat) (W:Nat→World→Prop) (S:Nat→World→World→Prop) (T:Nat→(Nat→Value)→World→World→Prop) (D:List (List Nat)) (Φ:List (Nat→Value→World→Prop)) (a0:Act) (i:Nat) (o:Oper) (d:List Nat) (c:List (Nat × Nat)):Prop where
 out:∀(y:Nat→Value) (w:World) (p:Nat),t6 ms D i p→W p w→kV Φ y w p d→∀K:Act→World→Prop,
  (∀a' v w',a'=(jF y c a0).put o.dst v→DA ms W S T (Φ.getD i (λ_ _ _=>True)) i p y v w w'→K a' w') →
  if Region.wanted o (yielded ops (jF y c a0).tmps) then o.wp P (jF y c a0) w K (λ_ _ _=>False) else K ((jF y c a0).put o.dst undef) w
theorem jZ {ms:List Nat} {W:Nat→World→Prop} {S:Nat→World→World→Prop} {T:Nat→(Nat→Value)→World→World→Prop} {D:List (List Nat)} {Φ:List (Nat→Value→World→Prop)} {a0:Act} {i:Nat} {o:Oper} {d:List Nat} {c:List (Nat × Nat)} (k:Nat) (hk:ms[k]? = some i)
 (h:∀(y:Nat→Value) (w:World),W k w→kV Φ y w k d→∀K:Act→World→Prop,(∀a' v w',a'=(jF y c a0).put o.dst v→T k y w w'→W (k+1) w'→Φ.getD i (λ_ _ _=>True) (k+1) v w'→K a' w') →
  if Region.wanted o (yielded ops (jF y c a0).tmps) then o.wp P (jF y c a0) w K (λ_ _ _=>False) else K ((jF y c a0).put o.dst undef) w):A8 P ops ms W S T D Φ a0 i o d c:=by
 refine⟨?_⟩;intro y w p hp hW hd K hK;have e:=hp.at_ k hk;subst e;exact h y w hW hd K (λa' v w' he hT hW' hφ=>hK a' v w' he ⟨λ_=>⟨hT,hW',hφ⟩,λhn=>absurd (qd hk) hn⟩)
theorem lH {ms:List Nat} {W:Nat→World→Prop} {S:Nat→World→World→Prop} {T:Nat→(Nat→Value)→World→World→Prop} {D:List (List Nat)} {Φ:List (Nat→Value→World→Prop)} {a0:Act} {i:Nat} {o:Oper} {d:List Nat} {c:List (Nat × Nat)} (lo hi:Nat) (hn:ms.contains i=false)
 (hlo:(decide (lo=0) || (D.getD i []).contains (ms.getD (lo - 1) 0) && decide (lo - 1 < ms.length))=true) (hhi:(decide (hi=ms.length) || (D.getD (ms.getD hi 0) []).contains i && decide (hi < ms.length))=true)
 (h:∀(y:Nat→Value) (w:World) (p:Nat),lo≤p→p≤hi→W p w→kV Φ y w p d→∀K:Act→World→Prop,(∀a' v w',a'=(jF y c a0).put o.dst v→S p w w'→Φ.getD i (λ_ _ _=>True) p v w'→K a' w') →
  if Region.wanted o (yielded ops (jF y c a0).tmps) then o.wp P (jF y c a0) w K (λ_ _ _=>False) else K ((jF y c a0).put o.dst undef) w):A8 P ops ms W S T D Φ a0 i o d c:=by
 refine⟨?_⟩;intro y w p hp hW hd K hK;have hni:i∉ms:=by simpa using hn
 refine h y w p ?_ ?_ hW hd K (λa' v w' he hS hφ=>hK a' v w' he ⟨λhm=>absurd hm hni,λ_=>⟨hS,hφ⟩⟩)
 ·simp only[qv,zg,zp,List.contains_iff_mem] at hlo;rcases hlo with h0|⟨h1,h2⟩
  ·omega
  have hg:ms[lo - 1]? = some (ms.getD (lo - 1) 0):=by simp[zw,h2]
  have:=hp.lo _ _ hg h1;omega
 simp only[qv,zg,zp,List.contains_iff_mem] at hhi;rcases hhi with h0|⟨h1,h2⟩
 ·rw[h0];exact hp.le
 have hg:ms[hi]? = some (ms.getD hi 0):=by simp[zw,h2]
 exact hp.hi _ _ hg h1
def allWP (P:Program) (ops:Array Oper) (ms:List Nat) (W:Nat→World→Prop) (S:Nat→World→World→Prop) (T:Nat→(Nat→Value)→World→World→Prop) (D0:List (List Nat)) (Φ:List (Nat→Value→World→Prop)) (a0:Act):Nat→List Oper→List (List Nat)→List (List (Nat × Nat))→Prop
 | _,[],_,_=>True
 | i,o::r,d::ds,c::cs=>A8 P ops ms W S T D0 Φ a0 i o d c∧allWP P ops ms W S T D0 Φ a0 (i+1) r ds cs
 | _,_::_,_,_=>False
theorem EC {ms:List Nat} {W:Nat→World→Prop} {S:Nat→World→World→Prop} {T:Nat→(Nat→Value)→World→World→Prop} {D:List (List Nat)} {Φ:List (Nat→Value→World→Prop)} {a0:Act} {i:Nat} {o:Oper} {d:List Nat} {c:List (Nat × Nat)} (h:∀(y:Nat→Value) (w:World) (p:Nat),0≤p→p≤ms.length→W p w→kV Φ y w p d→∀K:Act→World→Prop,(∀a' v w',a'=(jF y c a0).put o.dst v→S p w w'→Φ.getD i (λ_ _ _=>True) p v w'→K a' w') →
 if Region.wanted o (yielded ops (jF y c a0).tmps) then o.wp P (jF y c a0) w K (λ_ _ _=>False) else K ((jF y c a0).put o.dst undef) w) (hn:ms.contains i=false:=by kernel_rfl):A8 P ops ms W S T D Φ a0 i o d c:=lH 0 ms.length hn zp2 zp2 h
theorem jP {ms:List Nat} {W:Nat→World→Prop} {S:Nat→World→World→Prop} {T:Nat→(Nat→Value)→World→World→Prop} {D:List (List Nat)} {Φ:List (Nat→Value→World→Prop)} {a0:Act} {i:Nat} {o:Oper} {d:List Nat} {c:List (Nat × Nat)} (lo hi:Nat) (h:∀(y:Nat→Value) (w:World) (p:Nat),lo≤p→p≤hi→W p w→kV Φ y w p d→∀K:Act→World→Prop,(∀a' v w',a'=(jF y c a0).put o.dst v→S p w w'→Φ.getD i (λ_ _ _=>True) p v w'→K a' w') →
 if Region.wanted o (yielded ops (jF y c a0).tmps) then o.wp P (jF y c a0) w K (λ_ _ _=>False) else K ((jF y c a0).put o.dst undef) w) (hn:ms.contains i=false:=by kernel_rfl) (hlo:(decide (lo=0) || (D.getD i []).contains (ms.getD (lo - 1) 0) && decide (lo - 1 < ms.length))=true:=by kernel_rfl) (hhi:(decide (hi=ms.length) || (D.getD (ms.getD hi 0) []).contains i && decide (hi < ms.length))=true:=by kernel_rfl):A8 P ops ms W S T D Φ a0 i o d c:=lH lo hi hn hlo hhi h
theorem uF {ms:List Nat} {W:Nat→World→Prop} {S:Nat→World→World→Prop} {T:Nat→(Nat→Value)→World→World→Prop} {Φ:List (Nat→Value→World→Prop)} {a0:Act} (D0:List (List Nat)) (C0:List (List (Nat × Nat))) (hC:∀i,i < ops.size→C0.getD i []=yZ ops D0.toArray i) :
 ∀(l:List Oper) (i:Nat) (D:List (List Nat)) (C:List (List (Nat × Nat))),i+l.length=ops.size→(∀k,D[k]? = D0[i+k]?)→(∀k,C[k]? = C0[i+k]?)→allWP P ops ms W S T D0 Φ a0 i l D C →
  K2 (DB P ops ms W S T D0 (λj=>Φ.getD j (λ_ _ _=>True)) a0) i l:=by
 intro l
 induction l with
 | nil=>intros;trivial
 | cons o r ih=>
  intro i D C hl hD hC' h
  match D,C,h with
  | d::ds,c::cs,h=>
   obtain⟨h1,h2⟩:=h;refine⟨?_,ih (i+1) ds cs zp24 (λk=>?_) (λk=>?_) h2⟩
   ·have hd:D0.getD i []=d:=by
     have:=hD 0;simp at this;simp[zw,← this]
    have hc:yZ ops D0.toArray i=c:=by
     rw[← hC i zp24];have:=hC' 0;simp at this;simp[zw,← this]
    intro y w p hp hW hj K hK;rw[hd] at hj;rw[hc] at hK⊢;exact h1.out y w p hp hW (uE _ hj) K (λa' v w' he hs=>by subst he;exact hK v w' hs)
   ·exact zb14
   exact zb15
def stP (S:Nat→World→World→Prop) (T:Nat→(Nat→Value)→World→World→Prop):Nat→List (Nat→Value→World→Prop)→Prop
 | _,[]=>True
 | j,φ::r=>((∀p v w w',S p w w'→φ p v w→φ p v w')∧∀p v w w',(∃y:Nat→Value,y j=v∧T p y w w')→φ p v w→φ (p+1) v w')∧stP S T (j+1) r
theorem rZ {S:Nat→World→World→Prop} {T:Nat→(Nat→Value)→World→World→Prop}:∀{Φ:List (Nat→Value→World→Prop)} (i:Nat),stP S T i Φ→∀j,(∀p v w w',S p w w'→Φ.getD j (λ_ _ _=>True) p v w→Φ.getD j (λ_ _ _=>True) p v w')∧∀p v w w',(∃y:Nat→Value,y (i+j)=v∧T p y w w')→Φ.getD j (λ_ _ _=>True) p v w→Φ.getD j (λ_ _ _=>True) (p+1) v w'
 | [],_,_,j=>⟨λ_ _ _ _ _ _=>trivial,λ_ _ _ _ _ _=>trivial⟩
 | φ::r,_,h,0=>h.1
 | φ::r,i,h,j+1=>by
  have:=rZ (Φ:=r) (i+1) h.2 j;rw[show i+1+j=i+(j+1) by omega] at this;exact this
theorem KK {S T0:Nat→World→World→Prop} {φ:Nat→Value→World→Prop} {j:Nat} (h:(∀p v w w',S p w w'→φ p v w→φ p v w')∧∀p v w w',T0 p w w'→φ p v w→φ (p+1) v w') :
 (∀p v w w',S p w w'→φ p v w→φ p v w')∧∀p v w w',(∃y:Nat→Value,y j=v∧(λp (_:Nat→Value)=>T0 p) p y w w')→φ p v w→φ (p+1) v w':=
 ⟨h.1,λp v w w' ⟨_,_,hT⟩=>h.2 p v w w' hT⟩
def IsP (u:Value):Nat→Value→World→Prop:=λ_ v _=>v=u
theorem jG {S:Nat→World→World→Prop} {T:Nat→(Nat→Value)→World→World→Prop} {u:Value} {j:Nat}:(∀p v w w',S p w w'→IsP u p v w→IsP u p v w')∧∀p v w w',(∃y:Nat→Value,y j=v∧T p y w w')→IsP u p v w→IsP u (p+1) v w':=⟨λ_ _ _ _ _ h=>h,λ_ _ _ _ _ h=>h⟩
theorem jQ {id:Nat} {a0:Act} {w0:World} {Q:Exit→Act→World→Prop} (ms:List Nat) (W:Nat→World→Prop) (S:Nat→World→World→Prop) (T:Nat→(Nat→Value)→World→World→Prop) (D:List (List Nat)) (F:List (Nat × Nat)) (Φ:List (Nat→Value→World→Prop)) {C:List (List (Nat × Nat))} (hz:sqC D F=C) (hm:P.follows .mixedOrders=true)
 (hSW:∀p w w',S p w w'→W p w→W p w') (hW0:W 0 w0.drew) (hchk:KJ ops D C F=true) (hch:VA D ops.size ms=true) (hst:stP S T 0 Φ)
 (kE:Φ.length=ops.size)
 (hfin:∀y w,W ms.length w→yR y w ms.length 0 Φ→Q .normal (jF y F a0) w)
 (hop:allWP P ops ms W S T D Φ a0 0 ops.toList D C):(Code.region id ops true).wp P Q a0 w0:=by
 simp only[KJ,zg,zp,qu,qw] at hchk;obtain⟨⟨h1,h2⟩,h3⟩:=hchk;subst h2;have hops:=uF D C h3 ops.toList 0 D C zp2 zp2 zp2 hop;refine wp_region_any hm ?_;refine iP (ms:=ms) (W:=W) (S:=S) (T:=T) (Dl:=D) (D:=D.toArray) rfl (Φ:=λj=>Φ.getD j (λ_ _ _=>True)) (a0:=a0) h1 hch hSW (λj p v w w' hs h=>(rZ 0 hst j).1 p v w w' hs h) (λj p y w w' hs h=>(rZ 0 hst j).2 p (y j) w w' ⟨y,by rw[Nat.zero_add],hs⟩ h) (λi o ho=>?_) (λy w hW hj=>hfin y w hW (oR Φ 0 zp2 (λj h=>hj j (by rw[← kE];simpa using h)))) ops.size _ a0 _ (λj=>match (ops[j]?).bind (·.dst) with | some d=>a0.tmps.getD d undef | none=>undef) ?_ ⟨by simp,?_,?_,?_,?_,?_⟩
 ·have:=K4 _ 0 i o hops (by simpa using ho);simpa using this
 ·exact zb9
 ·exact zb10
 ·have h0:y8 (Array.replicate ops.size false) ms=0:=by
   cases ms with
   | nil=>rfl
   | cons m r=>
    have h:(Array.replicate ops.size false).getD m false=false:=(by simp[Array.getD]);unfold y8;rw[h];rfl
  rw[h0];exact hW0
 ·exact A5
 ·exact zb12
 exact A5
end
end Go.Proofs.YtdjoffgkndncfaaGreat
