/-
  Texts of the proof.
-/
import Derived.Test.YtdjoffgkndncfaaGreatDBuiltP00
import Derived.Orders
import Derived.Below
import Derived.KernelRfl
set_option linter.unusedVariables false
set_option linter.unusedSimpArgs false
namespace Go.Proofs.YtdjoffgkndncfaaGreat
open Go Go.RowKit
/-! ### growth of the world -/
def jD (w w':World):Prop:=Below w.heap.size w w'
theorem jD.refl (w:World):jD w w:=Below.refl _ _
theorem jD.trans {a b c:World} (h:jD a b) (k:jD b c):jD a c:=Below.trans h (Below.mono k (Below.size h))
theorem jD.size {a b:World} (h:jD a b):a.heap.size≤b.heap.size:=Below.size h
theorem jD.drew {a w:World} (h:jD a w):jD a w.drew:=Below.drew h
theorem jD.alloc {a w:World} (h:jD a w) (o:Obj):jD a (w.alloc o):=Below.alloc h (Below.size h) o
theorem jD.setCell {a w:World} (h:jD a w) {p:Addr} (hp:a.heap.size≤p.block) (u:Value):jD a (w.setCell p u):=Below.setCell h hp u
theorem jD.heap {w w':World} (h:jD w w') {k:Nat} {o:Obj} (hk:w.heap[k]? = some o):w'.heap[k]? = some o:=
 (Below.block h k (Array.getElem?_eq_some_iff.1 hk).1).trans hk
theorem yT {w:World} {p:Addr} {v:Value} (hc:w.cell? p=some v):p.block < w.heap.size:=by
 rcases Nat.lt_or_ge p.block w.heap.size with h|h
 ·exact h
 ·simp[World.cell?,Array.getElem?_eq_none h] at hc
theorem jD.cell {w w':World} (h:jD w w') {p:Addr} {v:Value} (hc:w.cell? p=some v):w'.cell? p=some v:=
 (Below.cell h (yT hc)).trans hc
theorem jD.frozen {w w':World} (h:jD w w') {p:Addr} {b:Bool} (hp:p.block < w.heap.size) (hc:w.frozen? p=b):w'.frozen? p=b:=
 (Below.frozen h hp).trans hc
theorem jD.rules {W w1:World} (hb:jD W w1):(∀b o,b < W.heap.size→w1.cell? ⟨b,o,none⟩=W.cell? ⟨b,o,none⟩)∧(∀b o,b < W.heap.size→w1.frozen? ⟨b,o,none⟩=W.frozen? ⟨b,o,none⟩)∧W.heap.size≤w1.heap.size:=
 ⟨fun b o h=>Below.cell (p:=⟨b,o,none⟩) hb h,fun b o h=>Below.frozen (p:=⟨b,o,none⟩) hb h,hb.size⟩
/-! ### filling the slots of a frame -/
section
variable {P:Program} {ops:Array Oper}
def jF (y:Nat→Value):List (Nat × Nat)→Act→Act
 | [],a=>a
 | (d,j)::r,a=>jF y r (a.put (some d) (y j))
theorem put_put (a:Act) (d:Nat) (u v:Value):(a.put (some d) u).put (some d) v=a.put (some d) v:=by
 simp[Act.put]
theorem dQ (y:Nat→Value) (d:Nat) (u:Value):∀(r:List (Nat × Nat)) (a:Act),(∀p∈r,p.1≠d)→jF y r (a.put (some d) u)=(jF y r a).put (some d) u
 | [],_,_=>rfl
 | (e,j)::r,a,h=>by
  have hne:e≠d:=h (e,j) zp2;have hc:(a.put (some d) u).put (some e) (y j)=(a.put (some e) (y j)).put (some d) u:=Act.put_comm a u (y j) (fun x hx hy=>by cases hx;cases hy;exact hne rfl);show jF y r ((a.put (some d) u).put (some e) (y j))=_;rw[hc];exact dQ y d u r _ (fun p hp=>h p (by simp[hp]))
theorem VN (y z:Nat→Value):∀(r:List (Nat × Nat)) (a:Act),(∀p∈r,y p.2=z p.2)→jF y r a=jF z r a
 | [],_,_=>rfl
 | (e,j)::r,a,h=>by
  show jF y r (a.put (some e) (y j))=jF z r (a.put (some e) (z j));rw[h (e,j) zp2];exact VN y z r _ (fun p hp=>h p (by simp[hp]))
def dR:List (Nat × Nat)→Bool
 | []=>true
 | p::r=>r.all (fun q=>q.1 != p.1 && q.2 != p.2) && dR r
theorem mW (y:Nat→Value) (i:Nat) (v:Value):∀(L:List (Nat × Nat)) (a:Act) (d:Nat),dR L=true→(d,i)∈L →
 jF (fun k=>if k=i then v else y k) L a=(jF y L a).put (some d) v
 | (e,j)::r,a,d,hk,hm=>by
  simp only[dR,Bool.and_eq_true,List.all_eq_true,bne_iff_ne] at hk;obtain⟨hne,hk⟩:=hk;show jF _ r (a.put (some e) (if j=i then v else y j))=(jF y r (a.put (some e) (y j))).put (some d) v;rcases List.mem_cons.1 hm with h|h
  ·obtain⟨rfl,rfl⟩:=Prod.mk.injEq .. ▸ h;rw[if_pos rfl,VN _ y r _ (fun p hp=>if_neg (hne p hp).2),dQ y d v r a (fun p hp=>(hne p hp).1),dQ y d (y i) r a (fun p hp=>(hne p hp).1),put_put]
  ·have hij:j≠i:=fun he=>(hne _ h).2 he.symm;rw[if_neg hij];exact mW y i v r _ d hk h
theorem vF (y:Nat→Value) (p:Nat × Nat→Bool):∀(L:List (Nat × Nat)) (a:Act),dR L=true→(∀q∈L,p q=false→a.put (some q.1) (y q.2)=a) →
 jF y (L.filter p) a=jF y L a
 | [],_,_,_=>rfl
 | (e,j)::r,a,hk,h=>by
  simp only[dR,Bool.and_eq_true,List.all_eq_true,bne_iff_ne] at hk;obtain⟨hne,hk⟩:=hk
  have hr:∀q∈r,p q=false→(a.put (some e) (y j)).put (some q.1) (y q.2)=a.put (some e) (y j):=fun q hq hp=>by
   rw[← Act.put_comm a (y q.2) (y j) (fun x hx hy=>by cases hx;cases hy;exact (hne q hq).1 rfl),h q (by simp[hq]) hp]
  cases hp:p (e,j) with
  | true=>
   rw[List.filter_cons_of_pos hp];exact vF y p r _ hk hr
  | false=>
   rw[List.filter_cons_of_neg (by simp[hp])];have h0:=h (e,j) zp2 hp;show jF y (r.filter p) a=jF y r (a.put (some e) (y j));simp only at h0;rw[h0] at hr⊢;exact vF y p r _ hk hr
def qL (ops:Array Oper):List (Nat × Nat):=(List.range ops.size).filterMap fun j=>((ops[j]?).bind (·.dst)).map fun d=>(d,j)
theorem mem_pairsOf {d j:Nat}:(d,j)∈qL ops↔(ops[j]?).bind (·.dst)=some d:=by
 unfold qL;rw[List.mem_filterMap];constructor
 ·rintro ⟨k,_,hk⟩
  cases hd:(ops[k]?).bind (·.dst) with
  | none=>simp[hd] at hk
  | some e=>simp[hd] at hk;obtain⟨rfl,rfl⟩:=hk;exact hd
 ·intro h;refine⟨j,?_,by simp[h]⟩;rw[List.mem_range];rcases Nat.lt_or_ge j ops.size with h'|h'
  ·exact h'
  ·rw[Array.getElem?_eq_none h'] at h;cases h
def gV (D:Array (List Nat)) (i j:Nat):Bool:=(D.getD j []).contains i
def yP (ops:Array Oper) (D:Array (List Nat)) (i:Nat):List (Nat × Nat):=(qL ops).filter fun q=>!(q.2 == i || gV D i q.2)
def JT (ops:Array Oper) (D:Array (List Nat)):Bool:=
 dR (qL ops) &&
 (List.range ops.size).all fun i=>
  match ops[i]? with
  | none=>true
  | some o=>
   let es:=(o.after.toList.filter (Region.binds .any)).map (·.on)
   es.all (fun e=>e < i) && (D.getD i []).all fun k=>es.any fun e=>e == k || (D.getD e []).contains k
def bO (P:Program) (ops:Array Oper) (R:World→World→Prop) (D:Array (List Nat)) (Φ:Nat→Value→World→Prop) (a0:Act) (w0:World) (i:Nat) (o:Oper):Prop:=
 ∀(y:Nat→Value) (w:World),R w0 w→(∀j∈D.getD i [],Φ j (y j) w)→∀K:Act→World→Prop,
  (∀v w',R w w'→Φ i v w'→K ((jF y (yP ops D i) a0).put o.dst v) w') →
  if Region.wanted o (yielded ops (jF y (yP ops D i) a0).tmps) then o.wp P (jF y (yP ops D i) a0) w K (fun _ _ _=>False) else K ((jF y (yP ops D i) a0).put o.dst undef) w
def KL (p:Nat→Oper→Prop):Nat→List Oper→Prop
 | _,[]=>True
 | i,o::r=>p i o∧KL p (i+1) r
theorem KM {p:Nat→Oper→Prop}:∀(l:List Oper) (i k:Nat) (o:Oper),KL p i l→l[k]? = some o→p (i+k) o:=by
 intro l
 induction l with
 | nil=>intro i k o _ hk;cases hk
 | cons o' r ih=>
  intro i k o h hk
  cases k with
  | zero=>
   rw[List.getElem?_cons_zero,Option.some.injEq] at hk;rw[← hk];exact h.1
  | succ k=>
   rw[List.getElem?_cons_succ] at hk;have h2:=ih (i+1) k o h.2 hk;have e:i+(k+1)=i+1+k:=by omega
   rw[e];exact h2
theorem YA {p q:Nat→Bool}:∀(l:List Nat) (i:Nat),(∀j,q j=true→p j=true)→i∈l→p i=true→q i=false→(l.filter q).length < (l.filter p).length
 | x::l,i,h,hm,hp,hq=>by
  have hle:∀l:List Nat,(l.filter q).length≤(l.filter p).length:=fun l=>by
   induction l with
   | nil=>simp
   | cons y l ih=>
    cases hqy:q y with
    | true=>rw[List.filter_cons_of_pos hqy,List.filter_cons_of_pos (h y hqy)];simpa using ih
    | false=>
     rw[List.filter_cons_of_neg (by simp[hqy])]
     cases hpy:p y with
     | true=>rw[List.filter_cons_of_pos hpy];simp;omega
     | false=>rw[List.filter_cons_of_neg (by simp[hpy])];exact ih
  rcases List.mem_cons.1 hm with he|he
  ·subst he;rw[List.filter_cons_of_pos hp,List.filter_cons_of_neg (by simp[hq])];have:=hle l;simp;omega
  ·have ih:=YA l i h he hp hq
   cases hqx:q x with
   | true=>rw[List.filter_cons_of_pos hqx,List.filter_cons_of_pos (h x hqx)];simpa using ih
   | false=>
    rw[List.filter_cons_of_neg (by simp[hqx])]
    cases hpx:p x with
    | true=>rw[List.filter_cons_of_pos hpx];simp;omega
    | false=>rw[List.filter_cons_of_neg (by simp[hpx])];exact ih
structure InvF (ops:Array Oper) (R:World→World→Prop) (D:Array (List Nat)) (Φ:Nat→Value→World→Prop) (a0:Act) (w0:World) (jH:Array Bool) (a:Act) (w:World) (y:Nat→Value):Prop where
 size:jH.size=ops.size
 act:a=jF y (qL ops) a0
 grown:R w0 w
 facts:∀j,jH.getD j false=true→Φ j (y j) w
 open_:∀j d,jH.getD j true=false→(ops[j]?).bind (·.dst)=some d→a0.put (some d) (y j)=a0
 closed:∀j,jH.getD j false=true→∀k∈D.getD j [],jH.getD k false=true
theorem sE (a:Act) (d:Nat):a.put (some d) (a.tmps.getD d undef)=a:=by
 cases a with
 | mk t df=>
  simp only[Act.put];congr 1;apply Array.ext
  ·simp
  ·intro i h1 h2;rw[Array.getElem_setIfInBounds h2];split
   ·rename_i he;subst he;simp[Array.getD,h2]
   ·rfl
theorem zM {jH:Array Bool} {j:Nat} (hj:j < jH.size):jH.getD j true=jH.getD j false:=by
 simp[Array.getD,hj]
theorem gW {R:World→World→Prop} {D:Array (List Nat)} {Φ:Nat→Value→World→Prop} {a0:Act} {w0:World} {Q:Exit→Act→World→Prop}
 (hRt:∀{a b c:World},R a b→R b c→R a c) (hchk:JT ops D=true) (hst:∀j v w w',R w w'→Φ j v w→Φ j v w') (hrr:∀w,R w w)
 (hop:∀i o,ops[i]? = some o→bO P ops R D Φ a0 w0 i o)
 (hfin:∀y w,R w0 w→(∀j,j < ops.size→Φ j (y j) w)→Q .normal (jF y (qL ops) a0) w) :
 ∀(fuel:Nat) (jH:Array Bool) (a:Act) (w:World) (y:Nat→Value),((List.range ops.size).filter fun j=>!jH.getD j true).length≤fuel →
  InvF ops R D Φ a0 w0 jH a w y→wpAny P .any ops Q fuel jH a w:=by
 simp only[JT,Bool.and_eq_true,List.all_eq_true,List.mem_range] at hchk;obtain⟨vB,qX⟩:=hchk
 -- nothing ready: all has been jH
 have qK:∀(jH:Array Bool),jH.size=ops.size→Region.ready .any ops jH=[]→∀j,j < ops.size→jH.getD j false=true:=by
  intro jH hs zQ j
  induction j using Nat.strongRecOn with
  | ind j ih=>
   intro hj
   cases hl:jH.getD j false with
   | true=>rfl
   | false=>
    exfalso
    have hmem:j∈Region.ready .any ops jH:=by
     rw[mem_ready];refine⟨by rw[zM zo];exact hl,ops[j],Array.getElem?_eq_getElem hj,fun e he hb=>?_⟩;have jK:=qX j hj;rw[Array.getElem?_eq_getElem hj] at jK;simp only[Bool.and_eq_true,List.all_eq_true,decide_eq_true_eq] at jK;have hlt:=jK.1 e.on (List.mem_map.2 ⟨e,List.mem_filter.2 ⟨by simpa using he,hb⟩,rfl⟩);exact ih e.on hlt zo
    rw[zQ] at hmem;cases hmem
 have hdone:∀(jH:Array Bool) (a:Act) (w:World) (y:Nat→Value),InvF ops R D Φ a0 w0 jH a w y→Region.ready .any ops jH=[]→Q .normal a w:=by
  intro jH a w y hI zQ;rw[hI.act];exact hfin y w hI.grown (fun j hj=>hI.facts j (qK jH hI.size zQ j hj))
 intro fuel
 induction fuel with
 | zero=>
  intro jH a w y kI hI
  have zQ:Region.ready .any ops jH=[]:=by
   have h0:((List.range ops.size).filter fun j=>!jH.getD j true)=[]:=List.length_eq_zero_iff.1 zo;refine List.eq_nil_iff_forall_not_mem.2 fun j hj=>?_;have hj':=mem_ready.1 hj
   have:j∈((List.range ops.size).filter fun j=>!jH.getD j true):=by
    obtain⟨hl,o,ho,_⟩:=hj';exact List.mem_filter.2 ⟨List.mem_range.2 (Array.getElem?_eq_some_iff.1 ho).1,by simp[hl]⟩
   rw[h0] at this;cases this
  exact⟨zQ,hdone jH a w y hI zQ⟩
 | succ fuel ih=>
  intro jH a w y kI hI;refine⟨hdone jH a w y hI,fun i hi=>?_⟩;obtain⟨hun,o,ho,hedges⟩:=mem_ready.1 hi;have hilt:i < ops.size:=(Array.getElem?_eq_some_iff.1 ho).1;have hunf:jH.getD i false=false:=by rw[← zM zp26];exact hun
  have jK:=qX i hilt;rw[ho] at jK;simp only[Bool.and_eq_true,List.all_eq_true,decide_eq_true_eq,List.any_eq_true,Bool.or_eq_true,beq_iff_eq,List.contains_iff_mem] at jK
  -- what i gV for has been jH
  have hD:∀k∈D.getD i [],jH.getD k false=true:=by
   intro k hk;obtain⟨e,he,hek⟩:=jK.2 k hk;obtain⟨ed,hed,rfl⟩:=List.mem_map.1 he;obtain⟨hed1,hed2⟩:=List.mem_filter.1 hed;have hl:=hedges ed (by simpa using hed1) hed2;rcases hek with rfl|hek
   ·exact hl
   ·exact hI.closed _ hl k hek
  have hcan:jF y (yP ops D i) a0=a:=by
   rw[hI.act];refine vF y _ _ a0 vB ?_;rintro ⟨d,j⟩ hq hp;simp only[Bool.not_eq_false',Bool.or_eq_true,beq_iff_eq] at hp;have hdst:=mem_pairsOf.1 hq;refine hI.open_ j d ?_ hdst;rcases hp with rfl|hw
   ·exact hun
   ·exact zb0
  have hw:=hop i o ho y w hI.grown (fun j hj=>hI.facts j (hD j hj)) (fun a' w'=>∃v,a'=a.put o.dst v∧R w w'∧Φ i v w');rw[hcan] at hw
  have hlen':((List.range ops.size).filter fun j=>!(jH.setIfInBounds i true).getD j true).length≤fuel:=by
   have:((List.range ops.size).filter fun j=>!(jH.setIfInBounds i true).getD j true).length < ((List.range ops.size).filter fun j=>!jH.getD j true).length:=by
    refine YA _ i (fun j hj=>?_) (List.mem_range.2 hilt) (by rw[hun];rfl) ?_
    ·exact zb1
    ·exact zb2
   omega
  have hnext:∀v w',R w w'→Φ i v w'→wpAny P .any ops Q fuel (jH.setIfInBounds i true) (a.put o.dst v) w':=by
   intro v w' hr hφ;have h2:i < jH.size:=by rw[hI.size];exact hilt
   refine ih _ _ _ (fun k=>if k=i then v else y k) hlen' ⟨by simp[hI.size],?_,hRt hI.grown hr,?_,?_,?_⟩
   ·exact zb3
   ·exact zb4
   ·exact zb5
   ·exact zb6
  unfold wpOp;simp only[ho];have hw2:=hw (fun v w' hr hφ=>⟨v,rfl,hr,hφ⟩);split at hw2
  ·exact zb7
  ·exact zb8
where
 wp_exit {o:Oper} {a:Act} {w:World} {K:Act→World→Prop} {Q:Exit→Act→World→Prop} (h:o.wp P a w K (fun _ _ _=>False)):o.wp P a w K Q:=by
  unfold Oper.wp at *;generalize (execOp a.eval o).run P w=r at *
  cases r with
  | ok n w'=>
   cases n<;>simp only[Oper.upon] at h⊢
   case enter f args=>
    refine Calls.mono h fun e w'' he=>?_
    cases e with
    | returned v=>exact he
    | panicked c=>exact he.elim
    | outgrown=>obtain⟨_,_,hq⟩:=he;exact hq.elim
   all_goals exact h
  | halt x w'=>cases x<;>simp only[Oper.upon] at h
theorem f9 {id:Nat} {a0:Act} {w0:World} {Q:Exit→Act→World→Prop} (R:World→World→Prop) (D:Array (List Nat)) (Φ:Nat→Value→World→Prop) (hm:P.follows .mixedOrders=true)
 (hRt:∀{a b c:World},R a b→R b c→R a c) (hrr:∀w,R w w) (hd:R w0 w0.drew) (hchk:JT ops D=true) (hst:∀j v w w',R w w'→Φ j v w→Φ j v w')
 (hop:KL (bO P ops R D Φ a0 w0) 0 ops.toList)
 (hfin:∀y w,R w0 w→(∀j,j < ops.size→Φ j (y j) w)→Q .normal (jF y (qL ops) a0) w):(Code.region id ops true).wp P Q a0 w0:=by
 refine wp_region_any hm ?_;refine gW (R:=R) (D:=D) (Φ:=Φ) (a0:=a0) (w0:=w0) hRt hchk hst hrr (fun i o ho=>?_) hfin ops.size _ a0 _ (fun j=>match (ops[j]?).bind (·.dst) with | some d=>a0.tmps.getD d undef | none=>undef) ?_ ⟨by simp,?_,hd,?_,?_,?_⟩
 ·have:=KM _ 0 i o hop (by simpa using ho);simpa using this
 ·exact zb9
 ·exact zb10
 ·exact xA
 ·exact zb12
 ·exact xA
/-! ### the same with written-out tables -/
def Is (v:Value) (u:Value) (_:World):Prop:=u=v
def kO (Φ:List (Value→World→Prop)) (y:Nat→Value) (w:World):List Nat→Prop
 | []=>True
 | j::r=>Φ.getD j (fun _ _=>True) (y j) w∧kO Φ y w r
theorem sF {Φ:List (Value→World→Prop)} {y:Nat→Value} {w:World}:∀(d:List Nat),(∀j∈d,Φ.getD j (fun _ _=>True) (y j) w)→kO Φ y w d
 | [],_=>trivial
 | j::r,h=>⟨h j zp2,sF r (fun k hk=>h k (by simp[hk]))⟩
def stL (R:World→World→Prop):List (Value→World→Prop)→Prop
 | []=>True
 | φ::r=>(∀v w w',R w w'→φ v w→φ v w')∧stL R r
theorem pG {R:World→World→Prop}:∀(Φ:List (Value→World→Prop)),stL R Φ→∀φ∈Φ,∀v w w',R w w'→φ v w→φ v w'
 | φ::r,h,ψ,hm=>by
  rcases List.mem_cons.1 hm with e|e
  ·subst e;exact h.1
  ·exact pG r h.2 ψ e
theorem jL {R:World→World→Prop} {x:Value}:∀v w w',R w w'→Is x v w→Is x v w':=fun _ _ _ _ h=>h
def z6 (y:Nat→Value) (w:World):Nat→List (Value→World→Prop)→Prop
 | _,[]=>True
 | i,φ::r=>φ (y i) w∧z6 y w (i+1) r
theorem aJ {Φ0:List (Value→World→Prop)} {y:Nat→Value} {w:World}:∀(Φ:List (Value→World→Prop)) (i:Nat),(∀k,Φ[k]? = Φ0[i+k]?)→(∀j,j < i+Φ.length→Φ0.getD j (fun _ _=>True) (y j) w)→z6 y w i Φ
 | [],_,_,_=>trivial
 | φ::r,i,h,hj=>by
  refine⟨?_,aJ r (i+1) (fun k=>?_) (fun j hj'=>hj j zp6)⟩
  ·have h0:=hj i zp2;have:=h 0;simp at this;simpa [List.getD_eq_getElem?_getD,← this] using h0
  ·have:=h (k+1);simp at this;rw[this];congr 1;omega
def word (P:Program) (ops:Array Oper) (R:World→World→Prop) (Φ:List (Value→World→Prop)) (a0:Act) (w0:World) (i:Nat) (o:Oper) (d:List Nat) (c:List (Nat × Nat)):Prop:=
 ∀(y:Nat→Value) (w:World),R w0 w→kO Φ y w d→∀K:Act→World→Prop,
  (∀a' v w',a'=(jF y c a0).put o.dst v→R w w'→Φ.getD i (fun _ _=>True) v w'→K a' w') →
  if Region.wanted o (yielded ops (jF y c a0).tmps) then o.wp P (jF y c a0) w K (fun _ _ _=>False) else K ((jF y c a0).put o.dst undef) w
def allW (P:Program) (ops:Array Oper) (R:World→World→Prop) (Φ:List (Value→World→Prop)) (a0:Act) (w0:World):Nat→List Oper→List (List Nat)→List (List (Nat × Nat))→Prop
 | _,[],_,_=>True
 | i,o::r,d::ds,c::cs=>word P ops R Φ a0 w0 i o d c∧allW P ops R Φ a0 w0 (i+1) r ds cs
 | _,_::_,_,_=>False
def J2 (ops:Array Oper) (D:List (List Nat)) (C:List (List (Nat × Nat))) (F:List (Nat × Nat)):Bool:=
 JT ops D.toArray && (decide (F=qL ops)) && (List.range ops.size).all fun i=>decide (C.getD i []=yP ops D.toArray i)
theorem gX {R:World→World→Prop} {Φ:List (Value→World→Prop)} {a0:Act} {w0:World} (D0:List (List Nat)) (C0:List (List (Nat × Nat))) (hC:∀i,i < ops.size→C0.getD i []=yP ops D0.toArray i) :
 ∀(l:List Oper) (i:Nat) (D:List (List Nat)) (C:List (List (Nat × Nat))),i+l.length=ops.size→(∀k,D[k]? = D0[i+k]?)→(∀k,C[k]? = C0[i+k]?)→allW P ops R Φ a0 w0 i l D C →
  KL (bO P ops R D0.toArray (fun j=>Φ.getD j (fun _ _=>True)) a0 w0) i l:=by
 intro l
 induction l with
 | nil=>intros;trivial
 | cons o r ih=>
  intro i D C hl hD hC' h
  match D,C,h with
  | d::ds,c::cs,h=>
   obtain⟨h1,h2⟩:=h;refine⟨?_,ih (i+1) ds cs zp24 (fun k=>?_) (fun k=>?_) h2⟩
   ·exact zb13
   ·exact zb14
   ·exact zb15
theorem kH {id:Nat} {a0:Act} {w0:World} {Q:Exit→Act→World→Prop} (R:World→World→Prop) (D:List (List Nat)) (C:List (List (Nat × Nat))) (F:List (Nat × Nat)) (Φ:List (Value→World→Prop)) (hm:P.follows .mixedOrders=true)
 (hRt:∀{a b c:World},R a b→R b c→R a c) (hrr:∀w,R w w) (hd:R w0 w0.drew) (hchk:J2 ops D C F=true) (hst:stL R Φ)
 (hop:allW P ops R Φ a0 w0 0 ops.toList D C)
 (kI:Φ.length=ops.size)
 (hfin:∀y w,R w0 w→z6 y w 0 Φ→Q .normal (jF y F a0) w):(Code.region id ops true).wp P Q a0 w0:=by
 simp only[J2,Bool.and_eq_true,decide_eq_true_eq,List.all_eq_true,List.mem_range] at hchk;obtain⟨⟨h1,h2⟩,h3⟩:=hchk;subst h2;refine f9 R D.toArray (fun j=>Φ.getD j (fun _ _=>True)) hm hRt hrr hd h1 ?_ (gX D C h3 ops.toList 0 D C zp2 zp2 zp2 hop) (fun y w hr hj=>hfin y w hr (aJ Φ 0 zp2 (fun j h=>hj j (by rw[← kI];simpa using h))));intro j v w w' hr hφ;rcases Nat.lt_or_ge j Φ.length with hj|hj
 ·have e:Φ.getD j (fun _ _=>True)=Φ[j]:=by simp[List.getD_eq_getElem?_getD,hj]
  rw[e] at hφ⊢;exact pG Φ hst _ (List.getElem_mem hj) v w w' hr hφ
 ·have e:Φ.getD j (fun _ _=>True)=fun _ _=>True:=by simp[List.getD_eq_getElem?_getD,hj]
  rw[e];trivial
end
section
variable {P:Program} {ops:Array Oper}
def EX (ops:Array Oper):Bool:=
 (List.range (ops.size - 1)).all fun j=>(List.range ops.size).any fun k=>decide (j < k) && match ops[k]? with | some o=>o.after.any fun e=>Region.binds .any e && e.on == j | none=>false
theorem gE {R:World→World→Prop} {D:Array (List Nat)} {Φ:Nat→Value→World→Prop} {a0:Act} {w0:World} {Q:Exit→Act→World→Prop}
 (hRt:∀{a b c:World},R a b→R b c→R a c) (hchk:JT ops D=true) (hst:∀j v w w',R w w'→Φ j v w→Φ j v w') (hrr:∀w,R w w)
 (hop:∀i o,i+1 < ops.size→ops[i]? = some o→bO P ops R D Φ a0 w0 i o) (hpos:0 < ops.size) (hsink:EX ops=true)
 (hfin:∀o,ops[ops.size - 1]? = some o→∀y w,R w0 w→(∀j,j+1 < ops.size→Φ j (y j) w)→∀a,a=jF y (yP ops D (ops.size - 1)) a0 →
  if Region.wanted o (yielded ops a.tmps) then o.wp P a w (fun a' w'=>Q .normal a' w') (fun _ _ _=>False) else Q .normal (a.put o.dst undef) w) :
 ∀(fuel:Nat) (jH:Array Bool) (a:Act) (w:World) (y:Nat→Value),((List.range ops.size).filter fun j=>!jH.getD j true).length≤fuel →
  InvF ops R D Φ a0 w0 jH a w y→(∀j o,ops[j]? = some o→jH.getD j false=true→∀e∈o.after,Region.binds .any e=true→jH.getD e.on false=true)→jH.getD (ops.size - 1) true=false→wpAny P .any ops Q fuel jH a w:=by
 simp only[JT,Bool.and_eq_true,List.all_eq_true,List.mem_range] at hchk;obtain⟨vB,qX⟩:=hchk
 -- nothing ready: all has been jH
 have qK:∀(jH:Array Bool),jH.size=ops.size→Region.ready .any ops jH=[]→∀j,j < ops.size→jH.getD j false=true:=by
  intro jH hs zQ j
  induction j using Nat.strongRecOn with
  | ind j ih=>
   intro hj
   cases hl:jH.getD j false with
   | true=>rfl
   | false=>
    exfalso
    have hmem:j∈Region.ready .any ops jH:=by
     rw[mem_ready];refine⟨by rw[zM zo];exact hl,ops[j],Array.getElem?_eq_getElem hj,fun e he hb=>?_⟩;have jK:=qX j hj;rw[Array.getElem?_eq_getElem hj] at jK;simp only[Bool.and_eq_true,List.all_eq_true,decide_eq_true_eq] at jK;have hlt:=jK.1 e.on (List.mem_map.2 ⟨e,List.mem_filter.2 ⟨by simpa using he,hb⟩,rfl⟩);exact ih e.on hlt zo
    rw[zQ] at hmem;cases hmem
 have hdone:∀(jH:Array Bool) (a:Act) (w:World) (y:Nat→Value),InvF ops R D Φ a0 w0 jH a w y→jH.getD (ops.size - 1) true=false→Region.ready .any ops jH=[]→Q .normal a w:=by
  intro jH a w y hI hl zQ;have:=qK jH hI.size zQ (ops.size - 1) zo;rw[← zM (by rw[hI.size];omega),hl] at this;cases this
 intro fuel
 induction fuel with
 | zero=>
  intro jH a w y kI hI hE hL
  have zQ:Region.ready .any ops jH=[]:=by
   have h0:((List.range ops.size).filter fun j=>!jH.getD j true)=[]:=List.length_eq_zero_iff.1 zo;refine List.eq_nil_iff_forall_not_mem.2 fun j hj=>?_;have hj':=mem_ready.1 hj
   have:j∈((List.range ops.size).filter fun j=>!jH.getD j true):=by
    obtain⟨hl,o,ho,_⟩:=hj';exact List.mem_filter.2 ⟨List.mem_range.2 (Array.getElem?_eq_some_iff.1 ho).1,by simp[hl]⟩
   rw[h0] at this;cases this
  exact⟨zQ,hdone jH a w y hI hL zQ⟩
 | succ fuel ih=>
  intro jH a w y kI hI hE hL;refine⟨hdone jH a w y hI hL,fun i hi=>?_⟩;obtain⟨hun,o,ho,hedges⟩:=mem_ready.1 hi;have hilt:i < ops.size:=(Array.getElem?_eq_some_iff.1 ho).1;have hunf:jH.getD i false=false:=by rw[← zM zp26];exact hun
  have jK:=qX i hilt;rw[ho] at jK;simp only[Bool.and_eq_true,List.all_eq_true,decide_eq_true_eq,List.any_eq_true,Bool.or_eq_true,beq_iff_eq,List.contains_iff_mem] at jK
  -- what i gV for has been jH
  have hD:∀k∈D.getD i [],jH.getD k false=true:=by
   intro k hk;obtain⟨e,he,hek⟩:=jK.2 k hk;obtain⟨ed,hed,rfl⟩:=List.mem_map.1 he;obtain⟨hed1,hed2⟩:=List.mem_filter.1 hed;have hl:=hedges ed (by simpa using hed1) hed2;rcases hek with rfl|hek
   ·exact hl
   ·exact hI.closed _ hl k hek
  have hcan:jF y (yP ops D i) a0=a:=by
   rw[hI.act];refine vF y _ _ a0 vB ?_;rintro ⟨d,j⟩ hq hp;simp only[Bool.not_eq_false',Bool.or_eq_true,beq_iff_eq] at hp;have hdst:=mem_pairsOf.1 hq;refine hI.open_ j d ?_ hdst;rcases hp with rfl|hw
   ·exact hun
   ·exact zb0
  by_cases hlast:i=ops.size - 1
  ·-- the last: all others have been jH
   subst hlast
   have hothers:∀d j,ops.size - 1 - j=d→j+1 < ops.size→jH.getD j false=true:=by
    intro d
    induction d using Nat.strongRecOn with
    | ind d ihd=>
     intro j hd hj;have h1:=List.all_eq_true.1 hsink j (List.mem_range.2 zo);obtain⟨k,hk,hk2⟩:=List.any_eq_true.1 h1;simp only[Bool.and_eq_true,decide_eq_true_eq] at hk2;have hkn:=List.mem_range.1 hk;obtain⟨hjk,hwt⟩:=hk2
     cases hok:ops[k]? with
     | none=>simp[hok] at hwt
     | some ok=>
      simp only[hok,Array.any_eq_true'] at hwt;obtain⟨e,he,hb⟩:=hwt;simp only[Bool.and_eq_true,beq_iff_eq] at hb;rw[← hb.2];by_cases hkl:k=ops.size - 1
      ·subst hkl;rw[ho] at hok;cases hok;exact hedges e he hb.1
      ·exact hE k ok hok (ihd (ops.size - 1 - k) zo k rfl zo) e he hb.1
   have hfl:=hfin o ho y w hI.grown (fun j hj=>hI.facts j (hothers _ j rfl hj)) a hcan.symm
   have hend:∀v w',Q .normal v w'→wpAny P .any ops Q fuel (jH.setIfInBounds (ops.size - 1) true) v w':=by
    intro v w' hq
    have zQ:Region.ready .any ops (jH.setIfInBounds (ops.size - 1) true)=[]:=by
     refine List.eq_nil_iff_forall_not_mem.2 fun j hj=>?_;obtain⟨hl,o',ho',_⟩:=mem_ready.1 hj;have hjlt:j < ops.size:=(Array.getElem?_eq_some_iff.1 ho').1;by_cases hjl:ops.size - 1=j
     ·subst hjl;have h2:ops.size - 1 < jH.size:=(by rw[hI.size];exact hilt);simp[h2] at hl
     ·rw[getD_set_ne true hjl,zM (by rw[hI.size];exact hjlt),hothers _ j rfl zo] at hl;cases hl
    cases fuel with
    | zero=>exact⟨zQ,hq⟩
    | succ f=>exact⟨fun _=>hq,fun j hj=>by rw[zQ] at hj;cases hj⟩
   unfold wpOp;simp only[ho];split at hfl
   ·rename_i hwa;rw[if_pos hwa];exact .inl (wp_exit (Oper.wp_mono (fun a' w' hq=>hend a' w' hq) hfl))
   ·rename_i hwa;rw[if_neg hwa];exact hend _ _ hfl
  have hw:=hop i o zo ho y w hI.grown (fun j hj=>hI.facts j (hD j hj)) (fun a' w'=>∃v,a'=a.put o.dst v∧R w w'∧Φ i v w');rw[hcan] at hw
  have hlen':((List.range ops.size).filter fun j=>!(jH.setIfInBounds i true).getD j true).length≤fuel:=by
   have:((List.range ops.size).filter fun j=>!(jH.setIfInBounds i true).getD j true).length < ((List.range ops.size).filter fun j=>!jH.getD j true).length:=by
    refine YA _ i (fun j hj=>?_) (List.mem_range.2 hilt) (by rw[hun];rfl) ?_
    ·exact zb1
    ·exact zb2
   omega
  have hnext:∀v w',R w w'→Φ i v w'→wpAny P .any ops Q fuel (jH.setIfInBounds i true) (a.put o.dst v) w':=by
   intro v w' hr hφ;have h2:i < jH.size:=by rw[hI.size];exact hilt
   refine ih _ _ _ (fun k=>if k=i then v else y k) hlen' ⟨by simp[hI.size],?_,hRt hI.grown hr,?_,?_,?_⟩ ?_ ?_
   ·exact zb3
   ·exact zb4
   ·exact zb5
   ·exact zb6
   ·intro j oj hoj hj e he hb;by_cases hji:j=i
    ·subst hji;rw[ho] at hoj;cases hoj;exact getD_set_true (hedges e he hb)
    ·rw[getD_set_ne false (Ne.symm hji)] at hj;exact getD_set_true (hE j oj hoj hj e he hb)
   ·rw[getD_set_ne true hlast];exact hL
  unfold wpOp;simp only[ho];have hw2:=hw (fun v w' hr hφ=>⟨v,rfl,hr,hφ⟩);split at hw2
  ·exact zb7
  ·exact zb8
where
 wp_exit {o:Oper} {a:Act} {w:World} {K:Act→World→Prop} {Q:Exit→Act→World→Prop} (h:o.wp P a w K (fun _ _ _=>False)):o.wp P a w K Q:=by
  unfold Oper.wp at *;generalize (execOp a.eval o).run P w=r at *
  cases r with
  | ok n w'=>
   cases n<;>simp only[Oper.upon] at h⊢
   case enter f args=>
    refine Calls.mono h fun e w'' he=>?_
    cases e with
    | returned v=>exact he
    | panicked c=>exact he.elim
    | outgrown=>obtain⟨_,_,hq⟩:=he;exact hq.elim
   all_goals exact h
  | halt x w'=>cases x<;>simp only[Oper.upon] at h
def J1 {α:Type} [Inhabited α]:List α→α
 | []=>default
 | [x]=>x
 | _::y::r=>J1 (y::r)
theorem dS {α:Type} [Inhabited α]:∀l:List α,J1 l=l.getLast?.getD default
 | []=>rfl
 | [x]=>rfl
 | _::y::r=>by rw[J1,dS (y::r),List.getLast?_cons_cons]
theorem JN {id:Nat} {a0:Act} {w0:World} {Q:Exit→Act→World→Prop} (R:World→World→Prop) (D:List (List Nat)) (C:List (List (Nat × Nat))) (Φ:List (Value→World→Prop)) (hm:P.follows .mixedOrders=true)
 (hRt:∀{a b c:World},R a b→R b c→R a c) (hrr:∀w,R w w) (hd:R w0 w0.drew) (hchk:(J2 ops D C (qL ops) && EX ops && decide (0 < ops.size))=true) (hst:stL R Φ)
 (kI:Φ.length+1=ops.size)
 (hop:allW P ops R Φ a0 w0 0 ops.toList.dropLast D C)
 (hfin:∀y w,R w0 w→z6 y w 0 Φ→∀K:Act→World→Prop,(∀a' w',Q .normal a' w'→K a' w') →
  if Region.wanted (J1 ops.toList) (yielded ops (jF y (J1 C) a0).tmps) then (J1 ops.toList).wp P (jF y (J1 C) a0) w K (fun _ _ _=>False) else K ((jF y (J1 C) a0).put (J1 ops.toList).dst undef) w)
 (hCl:C.length=ops.size):(Code.region id ops true).wp P Q a0 w0:=by
 simp only[Bool.and_eq_true,decide_eq_true_eq] at hchk;obtain⟨⟨hchk,hsink⟩,hpos⟩:=hchk;simp only[J2,Bool.and_eq_true,decide_eq_true_eq,List.all_eq_true,List.mem_range] at hchk;obtain⟨⟨h1,h2⟩,h3⟩:=hchk;refine wp_region_any hm ?_;have hwords:=gX (P:=P) (R:=R) (Φ:=Φ) (a0:=a0) (w0:=w0) D C h3;refine gE (R:=R) (D:=D.toArray) (Φ:=fun j=>Φ.getD j (fun _ _=>True)) (a0:=a0) (w0:=w0) hRt h1 ?_ hrr (fun i o hi ho=>?_) hpos hsink ?_ ops.size _ a0 _ (fun j=>match (ops[j]?).bind (·.dst) with | some d=>a0.tmps.getD d undef | none=>undef) ?_ ⟨by simp,?_,hd,?_,?_,?_⟩ ?_ ?_
 ·exact zb16
 ·have hd2:=allW_dropLast D C h3 ops.toList.dropLast 0 D C zp2 zp2 zp2 hop;have:=KM _ 0 i o hd2 (by rw[List.getElem?_dropLast];simp;exact⟨by omega,ho⟩);simpa using this
 ·intro o ho y w hr hf a ha;subst ha;have hl:ops.toList.getLast? = some o:=by rw[List.getLast?_eq_getElem?];simpa using ho
  have hc:J1 C=yP ops D.toArray (ops.size - 1):=by
   rw[dS,← h3 (ops.size - 1) zo,List.getLast?_eq_getElem?,List.getD_eq_getElem?_getD,hCl];rfl
  rw[← hc];have ho2:J1 ops.toList=o:=by rw[dS,hl];rfl
  rw[← ho2];exact hfin y w hr (aJ Φ 0 zp2 (fun j h=>hf j zo)) _ (fun _ _ h=>h)
 ·exact zb9
 ·exact zb10
 ·exact xA
 ·exact zb12
 ·exact xA
 ·intro j o _ hj
  have h:(Array.replicate ops.size false).getD j false=false:=by
   simp[Array.getD]
  rw[h] at hj;cases hj
 ·have h2:ops.size - 1 < ops.size:=by omega
  simp[Array.getD,h2]
where
 allW_dropLast {R:World→World→Prop} {Φ:List (Value→World→Prop)} {a0:Act} {w0:World} (D0:List (List Nat)) (C0:List (List (Nat × Nat))) (hC:∀i,i < ops.size→C0.getD i []=yP ops D0.toArray i) :
  ∀(l:List Oper) (i:Nat) (D:List (List Nat)) (C:List (List (Nat × Nat))),i+l.length≤ops.size→(∀k,D[k]? = D0[i+k]?)→(∀k,C[k]? = C0[i+k]?)→allW P ops R Φ a0 w0 i l D C →
   KL (bO P ops R D0.toArray (fun j=>Φ.getD j (fun _ _=>True)) a0 w0) i l:=by
  intro l
  induction l with
  | nil=>intros;trivial
  | cons o r ih=>
   intro i D C hl hD hC' h
   match D,C,h with
   | d::ds,c::cs,h=>
    obtain⟨h1,h2⟩:=h;refine⟨?_,ih (i+1) ds cs zp24 (fun k=>?_) (fun k=>?_) h2⟩
    ·exact zb13
    ·exact zb14
    ·exact zb15
end
theorem QS {b:Bool} {p q:Prop} (hb:b=true) (h:p):if b then p else q:=by rw[if_pos hb];exact h
theorem jO {b:Bool} {p q:Prop} (h:p) (hb:b=true:=by rfl):if b then p else q:=QS hb h
section
variable {P:Program} {ops:Array Oper}
def pH (P:Program) (ops:Array Oper) (m:Nat) (I:World→Prop) (T:Nat→World→World→Prop) (R:World→World→Prop) (D:Array (List Nat)) (Φ:Nat→(Nat→Value)→Value→World→Prop) (a0:Act) (w0:World) (i:Nat) (o:Oper):Prop:=
 ∀(y:Nat→Value) (w:World),R w0 w→(i=m→I w)→(∀j∈D.getD i [],Φ j y (y j) w)→∀K:Act→World→Prop,
  (∀v w',T i w w'→Φ i y v w'→K ((jF y (yP ops D i) a0).put o.dst v) w') →
  if Region.wanted o (yielded ops (jF y (yP ops D i) a0).tmps) then o.wp P (jF y (yP ops D i) a0) w K (fun _ _ _=>False) else K ((jF y (yP ops D i) a0).put o.dst undef) w
structure InvFT (ops:Array Oper) (m:Nat) (I:World→Prop) (R:World→World→Prop) (D:Array (List Nat)) (Φ:Nat→(Nat→Value)→Value→World→Prop) (a0:Act) (w0:World) (jH:Array Bool) (a:Act) (w:World) (y:Nat→Value):Prop where
 size:jH.size=ops.size
 act:a=jF y (qL ops) a0
 grown:R w0 w
 pre:jH.getD m false=false→I w
 facts:∀j,jH.getD j false=true→Φ j y (y j) w
 open_:∀j d,jH.getD j true=false→(ops[j]?).bind (·.dst)=some d→a0.put (some d) (y j)=a0
 closed:∀j,jH.getD j false=true→∀k∈D.getD j [],jH.getD k false=true
theorem gF {m:Nat} {I:World→Prop} {T:Nat→World→World→Prop} {R:World→World→Prop} {D:Array (List Nat)} {Φ:Nat→(Nat→Value)→Value→World→Prop} {a0:Act} {w0:World} {Q:Exit→Act→World→Prop}
 (hRt:∀{a b c:World},R a b→R b c→R a c) (hTR:∀i w w',T i w w'→R w w') (hTr:∀i w,T i w w) (hTI:∀i,i≠m→∀w w',T i w w'→I w→I w') (hcg:∀j y y' v w,(∀k∈D.getD j [],y k=y' k)→Φ j y v w→Φ j y' v w) (hchk:JT ops D=true) (hst:∀i j,i≠j→∀y v w w',T i w w'→Φ j y v w→Φ j y v w') (hrr:∀w,R w w)
 (hop:∀i o,ops[i]? = some o→pH P ops m I T R D Φ a0 w0 i o)
 (hfin:∀y w,R w0 w→(∀j,j < ops.size→Φ j y (y j) w)→Q .normal (jF y (qL ops) a0) w) :
 ∀(fuel:Nat) (jH:Array Bool) (a:Act) (w:World) (y:Nat→Value),((List.range ops.size).filter fun j=>!jH.getD j true).length≤fuel →
  InvFT ops m I R D Φ a0 w0 jH a w y→wpAny P .any ops Q fuel jH a w:=by
 simp only[JT,Bool.and_eq_true,List.all_eq_true,List.mem_range] at hchk;obtain⟨vB,qX⟩:=hchk
 -- nothing ready: all has been jH
 have qK:∀(jH:Array Bool),jH.size=ops.size→Region.ready .any ops jH=[]→∀j,j < ops.size→jH.getD j false=true:=by
  intro jH hs zQ j
  induction j using Nat.strongRecOn with
  | ind j ih=>
   intro hj
   cases hl:jH.getD j false with
   | true=>rfl
   | false=>
    exfalso
    have hmem:j∈Region.ready .any ops jH:=by
     rw[mem_ready];refine⟨by rw[zM zo];exact hl,ops[j],Array.getElem?_eq_getElem hj,fun e he hb=>?_⟩;have jK:=qX j hj;rw[Array.getElem?_eq_getElem hj] at jK;simp only[Bool.and_eq_true,List.all_eq_true,decide_eq_true_eq] at jK;have hlt:=jK.1 e.on (List.mem_map.2 ⟨e,List.mem_filter.2 ⟨by simpa using he,hb⟩,rfl⟩);exact ih e.on hlt zo
    rw[zQ] at hmem;cases hmem
 have hdone:∀(jH:Array Bool) (a:Act) (w:World) (y:Nat→Value),InvFT ops m I R D Φ a0 w0 jH a w y→Region.ready .any ops jH=[]→Q .normal a w:=by
  intro jH a w y hI zQ;rw[hI.act];exact hfin y w hI.grown (fun j hj=>hI.facts j (qK jH hI.size zQ j hj))
 intro fuel
 induction fuel with
 | zero=>
  intro jH a w y kI hI
  have zQ:Region.ready .any ops jH=[]:=by
   have h0:((List.range ops.size).filter fun j=>!jH.getD j true)=[]:=List.length_eq_zero_iff.1 zo;refine List.eq_nil_iff_forall_not_mem.2 fun j hj=>?_;have hj':=mem_ready.1 hj
   have:j∈((List.range ops.size).filter fun j=>!jH.getD j true):=by
    obtain⟨hl,o,ho,_⟩:=hj';exact List.mem_filter.2 ⟨List.mem_range.2 (Array.getElem?_eq_some_iff.1 ho).1,by simp[hl]⟩
   rw[h0] at this;cases this
  exact⟨zQ,hdone jH a w y hI zQ⟩
 | succ fuel ih=>
  intro jH a w y kI hI;refine⟨hdone jH a w y hI,fun i hi=>?_⟩;obtain⟨hun,o,ho,hedges⟩:=mem_ready.1 hi;have hilt:i < ops.size:=(Array.getElem?_eq_some_iff.1 ho).1;have hunf:jH.getD i false=false:=by rw[← zM zp26];exact hun
  have jK:=qX i hilt;rw[ho] at jK;simp only[Bool.and_eq_true,List.all_eq_true,decide_eq_true_eq,List.any_eq_true,Bool.or_eq_true,beq_iff_eq,List.contains_iff_mem] at jK
  -- what i gV for has been jH
  have hD:∀k∈D.getD i [],jH.getD k false=true:=by
   intro k hk;obtain⟨e,he,hek⟩:=jK.2 k hk;obtain⟨ed,hed,rfl⟩:=List.mem_map.1 he;obtain⟨hed1,hed2⟩:=List.mem_filter.1 hed;have hl:=hedges ed (by simpa using hed1) hed2;rcases hek with rfl|hek
   ·exact hl
   ·exact hI.closed _ hl k hek
  have hcan:jF y (yP ops D i) a0=a:=by
   rw[hI.act];refine vF y _ _ a0 vB ?_;rintro ⟨d,j⟩ hq hp;simp only[Bool.not_eq_false',Bool.or_eq_true,beq_iff_eq] at hp;have hdst:=mem_pairsOf.1 hq;refine hI.open_ j d ?_ hdst;rcases hp with rfl|hw
   ·exact hun
   ·exact zb0
  have hw:=hop i o ho y w hI.grown (fun e=>hI.pre (by rw[← e];exact hunf)) (fun j hj=>hI.facts j (hD j hj)) (fun a' w'=>∃v,a'=a.put o.dst v∧T i w w'∧Φ i y v w');rw[hcan] at hw
  have hlen':((List.range ops.size).filter fun j=>!(jH.setIfInBounds i true).getD j true).length≤fuel:=by
   have:((List.range ops.size).filter fun j=>!(jH.setIfInBounds i true).getD j true).length < ((List.range ops.size).filter fun j=>!jH.getD j true).length:=by
    refine YA _ i (fun j hj=>?_) (List.mem_range.2 hilt) (by rw[hun];rfl) ?_
    ·exact zb1
    ·exact zb2
   omega
  have hnext:∀v w',T i w w'→Φ i y v w'→wpAny P .any ops Q fuel (jH.setIfInBounds i true) (a.put o.dst v) w':=by
   intro v w' hr0 hφ;have hr:R w w':=hTR _ _ _ hr0
   have hag:∀j,jH.getD j false=true∨j=i→∀k∈D.getD j [],y k=(if k=i then v else y k):=by
    intro j hj k hk
    have hkl:jH.getD k false=true:=by
     rcases hj with hj|hj
     ·exact hI.closed j hj k hk
     ·rw[hj] at hk;exact hD k hk
    have hki:k≠i:=fun e=>by rw[e,hunf] at hkl;cases hkl
    rw[if_neg hki]
   have h2:i < jH.size:=by rw[hI.size];exact hilt
   refine ih _ _ _ (fun k=>if k=i then v else y k) hlen' ⟨by simp[hI.size],?_,hRt hI.grown hr,fun hm=>?_,?_,?_,?_⟩
   ·exact zb3
   ·by_cases him:i=m
    ·subst him;simp[h2] at hm
    ·rw[getD_set_ne false him] at hm;exact hTI i him _ _ hr0 (hI.pre hm)
   ·intro j hj;by_cases hji:j=i
    ·subst hji;rw[if_pos rfl];exact hcg j y _ v w' (hag j (.inr rfl)) hφ
    ·rw[if_neg hji];rw[getD_set_ne false (Ne.symm hji)] at hj;exact hcg j y _ (y j) w' (hag j (.inl hj)) (hst i j (Ne.symm hji) y _ _ _ hr0 (hI.facts j hj))
   ·exact zb5
   ·exact zb6
  unfold wpOp;simp only[ho];have hw2:=hw (fun v w' hr hφ=>⟨v,rfl,hr,hφ⟩);split at hw2
  ·exact zb7
  ·exact zb8
where
 wp_exit {o:Oper} {a:Act} {w:World} {K:Act→World→Prop} {Q:Exit→Act→World→Prop} (h:o.wp P a w K (fun _ _ _=>False)):o.wp P a w K Q:=by
  unfold Oper.wp at *;generalize (execOp a.eval o).run P w=r at *
  cases r with
  | ok n w'=>
   cases n<;>simp only[Oper.upon] at h⊢
   case enter f args=>
    refine Calls.mono h fun e w'' he=>?_
    cases e with
    | returned v=>exact he
    | panicked c=>exact he.elim
    | outgrown=>obtain⟨_,_,hq⟩:=he;exact hq.elim
   all_goals exact h
  | halt x w'=>cases x<;>simp only[Oper.upon] at h
theorem dU {id:Nat} {a0:Act} {w0:World} {Q:Exit→Act→World→Prop} (R:World→World→Prop) (m:Nat) (I:World→Prop) (T:Nat→World→World→Prop) (D:Array (List Nat)) (Φ:Nat→(Nat→Value)→Value→World→Prop) (hm:P.follows .mixedOrders=true)
 (hRt:∀{a b c:World},R a b→R b c→R a c) (hrr:∀w,R w w) (hTR:∀i w w',T i w w'→R w w') (hTr:∀i w,T i w w) (hTI:∀i,i≠m→∀w w',T i w w'→I w→I w') (hcg:∀j y y' v w,(∀k∈D.getD j [],y k=y' k)→Φ j y v w→Φ j y' v w) (hI0:I w0.drew) (hd:R w0 w0.drew) (hchk:JT ops D=true) (hst:∀i j,i≠j→∀y v w w',T i w w'→Φ j y v w→Φ j y v w')
 (hop:KL (pH P ops m I T R D Φ a0 w0) 0 ops.toList)
 (hfin:∀y w,R w0 w→(∀j,j < ops.size→Φ j y (y j) w)→Q .normal (jF y (qL ops) a0) w):(Code.region id ops true).wp P Q a0 w0:=by
 refine wp_region_any hm ?_;refine gF (m:=m) (I:=I) (T:=T) (R:=R) (D:=D) (Φ:=Φ) (a0:=a0) (w0:=w0) hRt hTR hTr hTI hcg hchk hst hrr (fun i o ho=>?_) hfin ops.size _ a0 _ (fun j=>match (ops[j]?).bind (·.dst) with | some d=>a0.tmps.getD d undef | none=>undef) ?_ ⟨by simp,?_,hd,fun _=>hI0,?_,?_,?_⟩
 ·have:=KM _ 0 i o hop (by simpa using ho);simpa using this
 ·exact zb9
 ·exact zb10
 ·exact xA
 ·exact zb12
 ·exact xA
def gY (Φ:List ((Nat→Value)→Value→World→Prop)) (y:Nat→Value) (w:World):List Nat→Prop
 | []=>True
 | j::r=>Φ.getD j (fun _ _ _=>True) y (y j) w∧gY Φ y w r
theorem sG {Φ:List ((Nat→Value)→Value→World→Prop)} {y:Nat→Value} {w:World}:∀(d:List Nat),(∀j∈d,Φ.getD j (fun _ _ _=>True) y (y j) w)→gY Φ y w d
 | [],_=>trivial
 | j::r,h=>⟨h j zp2,sG r (fun k hk=>h k (by simp[hk]))⟩
def pI (y:Nat→Value) (w:World):Nat→List ((Nat→Value)→Value→World→Prop)→Prop
 | _,[]=>True
 | i,φ::r=>φ y (y i) w∧pI y w (i+1) r
theorem mX {Φ0:List ((Nat→Value)→Value→World→Prop)} {y:Nat→Value} {w:World}:∀(Φ:List ((Nat→Value)→Value→World→Prop)) (i:Nat),(∀k,Φ[k]? = Φ0[i+k]?)→(∀j,j < i+Φ.length→Φ0.getD j (fun _ _ _=>True) y (y j) w)→pI y w i Φ
 | [],_,_,_=>trivial
 | φ::r,i,h,hj=>by
  refine⟨?_,mX r (i+1) (fun k=>?_) (fun j hj'=>hj j zp6)⟩
  ·have h0:=hj i zp2;have:=h 0;simp at this;simpa [List.getD_eq_getElem?_getD,← this] using h0
  ·have:=h (k+1);simp at this;rw[this];congr 1;omega
def wordT (P:Program) (ops:Array Oper) (m:Nat) (I:World→Prop) (T:Nat→World→World→Prop) (R:World→World→Prop) (Φ:List ((Nat→Value)→Value→World→Prop)) (a0:Act) (w0:World) (i:Nat) (o:Oper) (d:List Nat) (c:List (Nat × Nat)):Prop:=
 ∀(y:Nat→Value) (w:World),R w0 w→(i=m→I w)→gY Φ y w d→∀K:Act→World→Prop,
  (∀a' v w',a'=(jF y c a0).put o.dst v→T i w w'→Φ.getD i (fun _ _ _=>True) y v w'→K a' w') →
  if Region.wanted o (yielded ops (jF y c a0).tmps) then o.wp P (jF y c a0) w K (fun _ _ _=>False) else K ((jF y c a0).put o.dst undef) w
def allWT (P:Program) (ops:Array Oper) (m:Nat) (I:World→Prop) (T:Nat→World→World→Prop) (R:World→World→Prop) (Φ:List ((Nat→Value)→Value→World→Prop)) (a0:Act) (w0:World):Nat→List Oper→List (List Nat)→List (List (Nat × Nat))→Prop
 | _,[],_,_=>True
 | i,o::r,d::ds,c::cs=>wordT P ops m I T R Φ a0 w0 i o d c∧allWT P ops m I T R Φ a0 w0 (i+1) r ds cs
 | _,_::_,_,_=>False
theorem sH {m:Nat} {I:World→Prop} {T:Nat→World→World→Prop} {R:World→World→Prop} {Φ:List ((Nat→Value)→Value→World→Prop)} {a0:Act} {w0:World} (D0:List (List Nat)) (C0:List (List (Nat × Nat))) (hC:∀i,i < ops.size→C0.getD i []=yP ops D0.toArray i) :
 ∀(l:List Oper) (i:Nat) (D:List (List Nat)) (C:List (List (Nat × Nat))),i+l.length=ops.size→(∀k,D[k]? = D0[i+k]?)→(∀k,C[k]? = C0[i+k]?)→allWT P ops m I T R Φ a0 w0 i l D C →
  KL (pH P ops m I T R D0.toArray (fun j=>Φ.getD j (fun _ _ _=>True)) a0 w0) i l:=by
 intro l
 induction l with
 | nil=>intros;trivial
 | cons o r ih=>
  intro i D C hl hD hC' h
  match D,C,h with
  | d::ds,c::cs,h=>
   obtain⟨h1,h2⟩:=h;refine⟨?_,ih (i+1) ds cs zp24 (fun k=>?_) (fun k=>?_) h2⟩
   ·have hd:D0.toArray.getD i []=d:=by
     have:=hD 0;simp at this;simp[Array.getD_eq_getD_getElem?,← this]
    have hc:yP ops D0.toArray i=c:=by
     rw[← hC i zp24];have:=hC' 0;simp at this;simp[List.getD_eq_getElem?_getD,← this]
    intro y w hR hi hj K hK;rw[hd] at hj;rw[hc] at hK⊢;exact h1 y w hR hi (sG _ hj) K (fun a' v w' he hr hφ=>by subst he;exact hK v w' hr hφ)
   ·exact zb14
   ·exact zb15
def stLT (T:Nat→World→World→Prop):Nat→List ((Nat→Value)→Value→World→Prop)→Prop
 | _,[]=>True
 | j,φ::r=>(∀i,i≠j→∀y v w w',T i w w'→φ y v w→φ y v w')∧stLT T (j+1) r
theorem sI {T:Nat→World→World→Prop}:∀(Φ:List ((Nat→Value)→Value→World→Prop)) (j:Nat),stLT T j Φ→∀k φ,Φ[k]? = some φ→∀i,i≠j+k→∀y v w w',T i w w'→φ y v w→φ y v w'
 | φ::r,j,h,0,ψ,hk=>by
  simp at hk;subst hk;exact h.1
 | φ::r,j,h,k+1,ψ,hk=>by
  intro i hi y v w w' hr;exact sI r (j+1) h.2 k ψ (by simpa using hk) i zo y v w w' hr
def cgLT (D:List (List Nat)):Nat→List ((Nat→Value)→Value→World→Prop)→Prop
 | _,[]=>True
 | j,φ::r=>(∀y y' v w,(∀k∈D.getD j [],y k=y' k)→φ y v w→φ y' v w)∧cgLT D (j+1) r
theorem sJ {D:List (List Nat)}:∀(Φ:List ((Nat→Value)→Value→World→Prop)) (j:Nat),cgLT D j Φ→∀k φ,Φ[k]? = some φ→∀y y' v w,(∀q∈D.getD (j+k) [],y q=y' q)→φ y v w→φ y' v w
 | φ::r,j,h,0,ψ,hk=>by
  simp at hk;subst hk;exact h.1
 | φ::r,j,h,k+1,ψ,hk=>by
  intro y y' v w hq;exact sJ r (j+1) h.2 k ψ (by simpa using hk) y y' v w (by rw[show j+1+k=j+(k+1) by omega];exact hq)
theorem cK {id:Nat} {a0:Act} {w0:World} {Q:Exit→Act→World→Prop} (R:World→World→Prop) (m:Nat) (I:World→Prop) (T:Nat→World→World→Prop) (D:List (List Nat)) (C:List (List (Nat × Nat))) (F:List (Nat × Nat)) (Φ:List ((Nat→Value)→Value→World→Prop)) (hm:P.follows .mixedOrders=true)
 (hRt:∀{a b c:World},R a b→R b c→R a c) (hrr:∀w,R w w) (hTR:∀i w w',T i w w'→R w w') (hTr:∀i w,T i w w) (hTI:∀i,i≠m→∀w w',T i w w'→I w→I w') (hI0:I w0.drew) (hd:R w0 w0.drew) (hchk:J2 ops D C F=true) (hst:stLT T 0 Φ) (hcg:cgLT D 0 Φ)
 (hop:allWT P ops m I T R Φ a0 w0 0 ops.toList D C)
 (kI:Φ.length=ops.size)
 (hfin:∀y w,R w0 w→pI y w 0 Φ→Q .normal (jF y F a0) w):(Code.region id ops true).wp P Q a0 w0:=by
 simp only[J2,Bool.and_eq_true,decide_eq_true_eq,List.all_eq_true,List.mem_range] at hchk;obtain⟨⟨h1,h2⟩,h3⟩:=hchk;subst h2;refine dU R m I T D.toArray (fun j=>Φ.getD j (fun _ _ _=>True)) hm hRt hrr hTR hTr hTI ?_ hI0 hd h1 ?_ (sH D C h3 ops.toList 0 D C zp2 zp2 zp2 hop) (fun y w hr hj=>hfin y w hr (mX Φ 0 zp2 (fun j h=>hj j (by rw[← kI];simpa using h))))
 ·intro j y y' v w hk hφ;rcases Nat.lt_or_ge j Φ.length with hj|hj
  ·have e:Φ.getD j (fun _ _ _=>True)=Φ[j]:=by simp[List.getD_eq_getElem?_getD,hj]
   rw[e] at hφ⊢;refine sJ Φ 0 hcg j _ (List.getElem?_eq_getElem hj) y y' v w ?_ hφ;intro q hq;refine hk q ?_;rw[Nat.zero_add] at hq;simpa [Array.getD_eq_getD_getElem?,List.getD_eq_getElem?_getD] using hq
  ·have e:Φ.getD j (fun _ _ _=>True)=fun _ _ _=>True:=by simp[List.getD_eq_getElem?_getD,hj]
   rw[e];trivial
 ·intro i j hij y v w w' hr hφ;rcases Nat.lt_or_ge j Φ.length with hj|hj
  ·have e:Φ.getD j (fun _ _ _=>True)=Φ[j]:=by simp[List.getD_eq_getElem?_getD,hj]
   rw[e] at hφ⊢;exact sI Φ 0 hst j _ (List.getElem?_eq_getElem hj) i (by rw[Nat.zero_add];exact hij) y v w w' hr hφ
  ·have e:Φ.getD j (fun _ _ _=>True)=fun _ _ _=>True:=by simp[List.getD_eq_getElem?_getD,hj]
   rw[e];trivial
end
section
variable {P:Program} {ops:Array Oper}
end
section
variable {P:Program} {ops:Array Oper}
def yU (jH:Array Bool):List Nat→Nat
 | []=>0
 | m::r=>if jH.getD m false=true then yU jH r+1 else 0
theorem QA (jH:Array Bool):∀ms:List Nat,yU jH ms≤ms.length
 | []=>Nat.le_refl _
 | m::r=>by
  unfold yU;split
  ·have:=QA jH r;simp;exact this
  ·simp
theorem aK {jH:Array Bool}:∀{ms:List Nat} {k m:Nat},ms[k]? = some m→k < yU jH ms→jH.getD m false=true
 | [],k,m,h,_=>by simp at h
 | x::r,0,m,h,hk=>by
  simp at h;subst h;unfold yU at hk;split at hk
  ·assumption
  ·omega
 | x::r,k+1,m,h,hk=>by
  unfold yU at hk;split at hk
  ·exact aK (ms:=r) r8 zo
  ·omega
theorem K8 {jH:Array Bool}:∀{ms:List Nat} {p:Nat},p≤ms.length→(∀k m,k < p→ms[k]? = some m→jH.getD m false=true)→p≤yU jH ms
 | [],p,h,_=>by simp at h;omega
 | x::r,0,_,_=>Nat.zero_le _
 | x::r,p+1,h,hp=>by
  unfold yU;rw[if_pos (hp 0 x zo rfl)];have:=K8 (jH:=jH) (ms:=r) (p:=p) r8 (fun k m hk hm=>hp (k+1) m zo (by simpa using hm));omega
theorem dV {jH:Array Bool} {ms:List Nat} {k m:Nat} (hm:ms[k]? = some m) (hu:jH.getD m false=false):yU jH ms≤k:=by
 rcases Nat.lt_or_ge k (yU jH ms) with h|h
 ·have:=aK hm h;rw[hu] at this;cases this
 ·exact h
def QT (D:List (List Nat)) (n:Nat):List Nat→Bool
 | []=>true
 | m::r=>decide (m < n) && r.all (fun b=>(D.getD b []).contains m) && QT D n r
theorem K9 {D:List (List Nat)} {n:Nat}:∀{ms:List Nat},QT D n ms=true→∀{a b x y:Nat},a < b→ms[a]? = some x→ms[b]? = some y→x∈D.getD y []
 | m::r,h,0,b+1,x,y,_,hx,hy=>by
  simp only[QT,Bool.and_eq_true,List.all_eq_true] at h;simp at hx hy;subst hx;have:=h.1.2 y (List.mem_of_getElem? hy);simpa using this
 | m::r,h,a+1,b+1,x,y,hab,hx,hy=>by
  simp only[QT,Bool.and_eq_true] at h;exact K9 (ms:=r) (a:=a) (b:=b) h.2 zo dP (by simpa using hy)
theorem mY {D:List (List Nat)} {n:Nat}:∀{ms:List Nat},QT D n ms=true→∀{a x:Nat},ms[a]? = some x→x < n
 | m::r,h,0,x,hx=>by
  simp only[QT,Bool.and_eq_true,decide_eq_true_eq] at h;simp at hx;subst hx;exact h.1.1
 | m::r,h,a+1,x,hx=>by
  simp only[QT,Bool.and_eq_true] at h;exact mY (ms:=r) h.2 dP
structure sD (ms:List Nat) (D:List (List Nat)) (i p:Nat):Prop where
 at_:∀k,ms[k]? = some i→p=k
 lo:∀k m,ms[k]? = some m→m∈D.getD i []→k < p
 hi:∀k m,ms[k]? = some m→i∈D.getD m []→p≤k
 le:p≤ms.length
def BL (ms:List Nat) (W:Nat→World→Prop) (S:Nat→World→World→Prop) (T:Nat→(Nat→Value)→World→World→Prop) (φ:Nat→Value→World→Prop) (i p:Nat) (y:Nat→Value) (v:Value) (w w':World):Prop:=
 (i∈ms→T p y w w'∧W (p+1) w'∧φ (p+1) v w')∧(i∉ms→S p w w'∧φ p v w')
def BM (P:Program) (ops:Array Oper) (ms:List Nat) (W:Nat→World→Prop) (S:Nat→World→World→Prop) (T:Nat→(Nat→Value)→World→World→Prop) (D:List (List Nat)) (Φ:Nat→Nat→Value→World→Prop) (a0:Act) (i:Nat) (o:Oper):Prop:=
 ∀(y:Nat→Value) (w:World) (p:Nat),sD ms D i p→W p w→(∀j∈D.getD i [],Φ j p (y j) w)→∀K:Act→World→Prop,
  (∀v w',BL ms W S T (Φ i) i p y v w w'→K ((jF y (yP ops D.toArray i) a0).put o.dst v) w') →
  if Region.wanted o (yielded ops (jF y (yP ops D.toArray i) a0).tmps) then o.wp P (jF y (yP ops D.toArray i) a0) w K (fun _ _ _=>False) else K ((jF y (yP ops D.toArray i) a0).put o.dst undef) w
structure InvFP (ops:Array Oper) (ms:List Nat) (W:Nat→World→Prop) (D:Array (List Nat)) (Φ:Nat→Nat→Value→World→Prop) (a0:Act) (jH:Array Bool) (a:Act) (w:World) (y:Nat→Value):Prop where
 size:jH.size=ops.size
 act:a=jF y (qL ops) a0
 pre:W (yU jH ms) w
 facts:∀j,jH.getD j false=true→Φ j (yU jH ms) (y j) w
 open_:∀j d,jH.getD j true=false→(ops[j]?).bind (·.dst)=some d→a0.put (some d) (y j)=a0
 closed:∀j,jH.getD j false=true→∀k∈D.getD j [],jH.getD k false=true
theorem EY (D:List (List Nat)) (i:Nat):D.toArray.getD i []=D.getD i []:=by simp[Array.getD_eq_getD_getElem?,List.getD_eq_getElem?_getD]
theorem gG {ms:List Nat} {W:Nat→World→Prop} {S:Nat→World→World→Prop} {T:Nat→(Nat→Value)→World→World→Prop} {Dl:List (List Nat)} {D:Array (List Nat)} (hDl:D=Dl.toArray) {Φ:Nat→Nat→Value→World→Prop} {a0:Act} {Q:Exit→Act→World→Prop}
 (hchk:JT ops D=true) (hch:QT Dl ops.size ms=true) (hSW:∀p w w',S p w w'→W p w→W p w') (hSΦ:∀j p v w w',S p w w'→Φ j p v w→Φ j p v w') (hTΦ:∀j p (y:Nat→Value) w w',T p y w w'→Φ j p (y j) w→Φ j (p+1) (y j) w')
 (hop:∀i o,ops[i]? = some o→BM P ops ms W S T Dl Φ a0 i o)
 (hfin:∀y w,W ms.length w→(∀j,j < ops.size→Φ j ms.length (y j) w)→Q .normal (jF y (qL ops) a0) w) :
 ∀(fuel:Nat) (jH:Array Bool) (a:Act) (w:World) (y:Nat→Value),((List.range ops.size).filter fun j=>!jH.getD j true).length≤fuel →
  InvFP ops ms W D Φ a0 jH a w y→wpAny P .any ops Q fuel jH a w:=by
 simp only[JT,Bool.and_eq_true,List.all_eq_true,List.mem_range] at hchk;obtain⟨vB,qX⟩:=hchk
 -- nothing ready: all has been jH
 have qK:∀(jH:Array Bool),jH.size=ops.size→Region.ready .any ops jH=[]→∀j,j < ops.size→jH.getD j false=true:=by
  intro jH hs zQ j
  induction j using Nat.strongRecOn with
  | ind j ih=>
   intro hj
   cases hl:jH.getD j false with
   | true=>rfl
   | false=>
    exfalso
    have hmem:j∈Region.ready .any ops jH:=by
     rw[mem_ready];refine⟨by rw[zM zo];exact hl,ops[j],Array.getElem?_eq_getElem hj,fun e he hb=>?_⟩;have jK:=qX j hj;rw[Array.getElem?_eq_getElem hj] at jK;simp only[Bool.and_eq_true,List.all_eq_true,decide_eq_true_eq] at jK;have hlt:=jK.1 e.on (List.mem_map.2 ⟨e,List.mem_filter.2 ⟨by simpa using he,hb⟩,rfl⟩);exact ih e.on hlt zo
    rw[zQ] at hmem;cases hmem
 have hdone:∀(jH:Array Bool) (a:Act) (w:World) (y:Nat→Value),InvFP ops ms W D Φ a0 jH a w y→Region.ready .any ops jH=[]→Q .normal a w:=by
  intro jH a w y hI zQ;rw[hI.act];have hp:yU jH ms=ms.length:=Nat.le_antisymm (QA _ _) (K8 (Nat.le_refl _) fun k m hk hm=>qK jH hI.size zQ m (mY hch hm));have hpre:=hI.pre;rw[hp] at hpre;refine hfin y w hpre (fun j hj=>?_);have:=hI.facts j (qK jH hI.size zQ j hj)
  rwa [hp] at this
 intro fuel
 induction fuel with
 | zero=>
  intro jH a w y kI hI
  have zQ:Region.ready .any ops jH=[]:=by
   have h0:((List.range ops.size).filter fun j=>!jH.getD j true)=[]:=List.length_eq_zero_iff.1 zo;refine List.eq_nil_iff_forall_not_mem.2 fun j hj=>?_;have hj':=mem_ready.1 hj
   have:j∈((List.range ops.size).filter fun j=>!jH.getD j true):=by
    obtain⟨hl,o,ho,_⟩:=hj';exact List.mem_filter.2 ⟨List.mem_range.2 (Array.getElem?_eq_some_iff.1 ho).1,by simp[hl]⟩
   rw[h0] at this;cases this
  exact⟨zQ,hdone jH a w y hI zQ⟩
 | succ fuel ih=>
  intro jH a w y kI hI;refine⟨hdone jH a w y hI,fun i hi=>?_⟩;obtain⟨hun,o,ho,hedges⟩:=mem_ready.1 hi;have hilt:i < ops.size:=(Array.getElem?_eq_some_iff.1 ho).1;have hunf:jH.getD i false=false:=by rw[← zM zp26];exact hun
  have jK:=qX i hilt;rw[ho] at jK;simp only[Bool.and_eq_true,List.all_eq_true,decide_eq_true_eq,List.any_eq_true,Bool.or_eq_true,beq_iff_eq,List.contains_iff_mem] at jK
  -- what i gV for has been jH
  have hD:∀k∈D.getD i [],jH.getD k false=true:=by
   intro k hk;obtain⟨e,he,hek⟩:=jK.2 k hk;obtain⟨ed,hed,rfl⟩:=List.mem_map.1 he;obtain⟨hed1,hed2⟩:=List.mem_filter.1 hed;have hl:=hedges ed (by simpa using hed1) hed2;rcases hek with rfl|hek
   ·exact hl
   ·exact hI.closed _ hl k hek
  have hcan:jF y (yP ops D i) a0=a:=by
   rw[hI.act];refine vF y _ _ a0 vB ?_;rintro ⟨d,j⟩ hq hp;simp only[Bool.not_eq_false',Bool.or_eq_true,beq_iff_eq] at hp;have hdst:=mem_pairsOf.1 hq;refine hI.open_ j d ?_ hdst;rcases hp with rfl|hw
   ·exact hun
   ·exact zb0
  have hDe:∀j,D.getD j []=Dl.getD j []:=fun j=>by rw[hDl];exact EY _ _
  have hle:=QA jH ms
  have hat:∀k,ms[k]? = some i→yU jH ms=k:=fun k hk=>
   Nat.le_antisymm (dV hk hunf) (K8 (by have:=(List.getElem?_eq_some_iff.1 hk).1;omega) fun a m ha hm=>hD m (by rw[hDe];exact K9 hch ha hm hk))
  have hph:sD ms Dl i (yU jH ms):=by
   refine⟨hat,fun k m hm hmi=>?_,fun k m hm hmi=>?_,hle⟩
   ·have hl:=hD m (by rw[hDe];exact hmi)
    have:k+1≤yU jH ms:=K8 (by have:=(List.getElem?_eq_some_iff.1 hm).1;omega) fun a q ha hq=>by
     rcases Nat.lt_or_ge a k with h|h
     ·exact hI.closed m hl q (by rw[hDe];exact K9 hch h hq hm)
     ·have:a=k:=(by omega);subst this;rw[hm] at hq;cases hq;exact hl
    omega
   ·refine dV hm ?_
    cases hl:jH.getD m false with
    | false=>rfl
    | true=>
     have:=hI.closed m hl i (by rw[hDe];exact hmi);rw[hunf] at this;cases this
  have hw:=hop i o ho y w _ hph hI.pre (fun j hj=>hI.facts j (hD j (by rw[hDe];exact hj))) (fun a' w'=>∃v,a'=a.put o.dst v∧BL ms W S T (Φ i) i (yU jH ms) y v w w');rw[← hDl,hcan] at hw
  have hlen':((List.range ops.size).filter fun j=>!(jH.setIfInBounds i true).getD j true).length≤fuel:=by
   have:((List.range ops.size).filter fun j=>!(jH.setIfInBounds i true).getD j true).length < ((List.range ops.size).filter fun j=>!jH.getD j true).length:=by
    refine YA _ i (fun j hj=>?_) (List.mem_range.2 hilt) (by rw[hun];rfl) ?_
    ·exact zb1
    ·exact zb2
   omega
  have hnext:∀v w',BL ms W S T (Φ i) i (yU jH ms) y v w w'→wpAny P .any ops Q fuel (jH.setIfInBounds i true) (a.put o.dst v) w':=by
   intro v w' hr0;have h2:i < jH.size:=by rw[hI.size];exact hilt
   have hset:∀j,(jH.setIfInBounds i true).getD j false=true→j≠i→jH.getD j false=true:=fun j hj hne=>by rwa [getD_set_ne false (Ne.symm hne)] at hj
   have hsub:∀j,jH.getD j false=true→(jH.setIfInBounds i true).getD j false=true:=fun j hj=>getD_set_true hj
   -- the phase behind the step
   have hphase:W (yU (jH.setIfInBounds i true) ms) w'∧(∀j,jH.getD j false=true→Φ j (yU (jH.setIfInBounds i true) ms) (y j) w')∧Φ i (yU (jH.setIfInBounds i true) ms) v w':=by
    by_cases hmem:i∈ms
    ·obtain⟨k,hk⟩:=List.getElem?_of_mem hmem;have hpk:=hat k hk;obtain⟨hT,hW,hφ⟩:=hr0.1 hmem
     have hn:yU (jH.setIfInBounds i true) ms=yU jH ms+1:=by
      refine Nat.le_antisymm ?_ (K8 (by have:=(List.getElem?_eq_some_iff.1 hk).1;omega) fun a m ha hm=>?_)
      ·rcases Nat.lt_or_ge (k+1) ms.length with hl|hl
       ·rw[hpk];refine dV (List.getElem?_eq_getElem hl) ?_
        have hne:ms[k+1]≠i:=fun e=>by
         have h3:=K9 hch (Nat.lt_succ_self k) hk (List.getElem?_eq_getElem hl);rw[e] at h3;have h4:=hD i (by rw[hDe];exact h3);rw[hunf] at h4;cases h4
        rw[getD_set_ne false (Ne.symm hne)]
        cases hl2:jH.getD ms[k+1] false with
        | false=>rfl
        | true=>
         have h4:=hI.closed _ hl2 i (by rw[hDe];exact K9 hch (Nat.lt_succ_self k) hk (List.getElem?_eq_getElem hl));rw[hunf] at h4;cases h4
       ·have:=QA (jH.setIfInBounds i true) ms;omega
      ·rcases Nat.lt_or_ge a k with h|h
       ·exact hsub m (hD m (by rw[hDe];exact K9 hch h hm hk))
       ·have:a=k:=(by omega);subst this;rw[hk] at hm;cases hm;simp[h2]
     rw[hn];exact⟨hW,fun j hj=>hTΦ _ _ _ _ _ hT (hI.facts j hj),hφ⟩
    ·obtain⟨hS,hφ⟩:=hr0.2 hmem
     have hn:yU (jH.setIfInBounds i true) ms=yU jH ms:=by
      refine Nat.le_antisymm ?_ (K8 hle fun a m ha hm=>hsub m (aK hm ha));refine K8 (QA _ _) fun a m ha hm=>hset m (aK hm ha) (fun e=>hmem (by rw[← e];exact List.mem_of_getElem? hm))
     rw[hn];exact⟨hSW _ _ _ hS hI.pre,fun j hj=>hSΦ _ _ _ _ _ hS (hI.facts j hj),hφ⟩
   refine ih _ _ _ (fun k=>if k=i then v else y k) hlen' ⟨by simp[hI.size],?_,hphase.1,?_,?_,?_⟩
   ·exact zb3
   ·intro j hj;by_cases hji:j=i
    ·subst hji;rw[if_pos rfl];exact hphase.2.2
    ·rw[if_neg hji];exact hphase.2.1 j (hset j hj hji)
   ·exact zb5
   ·intro j hj k hk;by_cases hji:j=i
    ·subst hji;exact getD_set_true (hD k hk)
    ·exact getD_set_true (hI.closed j (hset j hj hji) k hk)
  unfold wpOp;simp only[ho];have hw2:=hw (fun v w' hr=>⟨v,rfl,hr⟩);split at hw2
  ·rename_i hwa;rw[if_pos hwa];refine .inl ?_
   have h3:o.wp P a w (wpAny P .any ops Q fuel (jH.setIfInBounds i true)) (fun _ _ _=>False):=
    Oper.wp_mono (fun a' w' ⟨v,he,hr⟩=>by subst he;exact hnext v w' hr) hw2
   exact wp_exit h3
  ·rename_i hwa;rw[if_neg hwa];obtain⟨v,he,hr⟩:=hw2;rw[he];exact hnext v w hr
where
 wp_exit {o:Oper} {a:Act} {w:World} {K:Act→World→Prop} {Q:Exit→Act→World→Prop} (h:o.wp P a w K (fun _ _ _=>False)):o.wp P a w K Q:=by
  unfold Oper.wp at *;generalize (execOp a.eval o).run P w=r at *
  cases r with
  | ok n w'=>
   cases n<;>simp only[Oper.upon] at h⊢
   case enter f args=>
    refine Calls.mono h fun e w'' he=>?_
    cases e with
    | returned v=>exact he
    | panicked c=>exact he.elim
    | outgrown=>obtain⟨_,_,hq⟩:=he;exact hq.elim
   all_goals exact h
  | halt x w'=>cases x<;>simp only[Oper.upon] at h
def zD (Φ:List (Nat→Value→World→Prop)) (y:Nat→Value) (w:World) (p:Nat):List Nat→Prop
 | []=>True
 | j::r=>Φ.getD j (fun _ _ _=>True) p (y j) w∧zD Φ y w p r
theorem sK {Φ:List (Nat→Value→World→Prop)} {y:Nat→Value} {w:World} {p:Nat}:∀(d:List Nat),(∀j∈d,Φ.getD j (fun _ _ _=>True) p (y j) w)→zD Φ y w p d
 | [],_=>trivial
 | j::r,h=>⟨h j zp2,sK r (fun k hk=>h k (by simp[hk]))⟩
def yK (y:Nat→Value) (w:World) (p:Nat):Nat→List (Nat→Value→World→Prop)→Prop
 | _,[]=>True
 | i,φ::r=>φ p (y i) w∧yK y w p (i+1) r
theorem mZ {Φ0:List (Nat→Value→World→Prop)} {y:Nat→Value} {w:World} {p:Nat}:∀(Φ:List (Nat→Value→World→Prop)) (i:Nat),(∀k,Φ[k]? = Φ0[i+k]?)→(∀j,j < i+Φ.length→Φ0.getD j (fun _ _ _=>True) p (y j) w)→yK y w p i Φ
 | [],_,_,_=>trivial
 | φ::r,i,h,hj=>by
  refine⟨?_,mZ r (i+1) (fun k=>?_) (fun j hj'=>hj j zp6)⟩
  ·have h0:=hj i zp2;have:=h 0;simp at this;simpa [List.getD_eq_getElem?_getD,← this] using h0
  ·have:=h (k+1);simp at this;rw[this];congr 1;omega
structure xD (P:Program) (ops:Array Oper) (ms:List Nat) (W:Nat→World→Prop) (S:Nat→World→World→Prop) (T:Nat→(Nat→Value)→World→World→Prop) (D:List (List Nat)) (Φ:List (Nat→Value→World→Prop)) (a0:Act) (i:Nat) (o:Oper) (d:List Nat) (c:List (Nat × Nat)):Prop where
 out:∀(y:Nat→Value) (w:World) (p:Nat),sD ms D i p→W p w→zD Φ y w p d→∀K:Act→World→Prop,
  (∀a' v w',a'=(jF y c a0).put o.dst v→BL ms W S T (Φ.getD i (fun _ _ _=>True)) i p y v w w'→K a' w') →
  if Region.wanted o (yielded ops (jF y c a0).tmps) then o.wp P (jF y c a0) w K (fun _ _ _=>False) else K ((jF y c a0).put o.dst undef) w
theorem j4 {ms:List Nat} {W:Nat→World→Prop} {S:Nat→World→World→Prop} {T:Nat→(Nat→Value)→World→World→Prop} {D:List (List Nat)} {Φ:List (Nat→Value→World→Prop)} {a0:Act} {i:Nat} {o:Oper} {d:List Nat} {c:List (Nat × Nat)} (k:Nat) (hk:ms[k]? = some i)
 (h:∀(y:Nat→Value) (w:World),W k w→zD Φ y w k d→∀K:Act→World→Prop,(∀a' v w',a'=(jF y c a0).put o.dst v→T k y w w'→W (k+1) w'→Φ.getD i (fun _ _ _=>True) (k+1) v w'→K a' w') →
  if Region.wanted o (yielded ops (jF y c a0).tmps) then o.wp P (jF y c a0) w K (fun _ _ _=>False) else K ((jF y c a0).put o.dst undef) w):xD P ops ms W S T D Φ a0 i o d c:=by
 refine⟨?_⟩;intro y w p hp hW hd K hK;have e:=hp.at_ k hk;subst e;exact h y w hW hd K (fun a' v w' he hT hW' hφ=>hK a' v w' he ⟨fun _=>⟨hT,hW',hφ⟩,fun hn=>absurd (List.mem_of_getElem? hk) hn⟩)
theorem gZ {ms:List Nat} {W:Nat→World→Prop} {S:Nat→World→World→Prop} {T:Nat→(Nat→Value)→World→World→Prop} {D:List (List Nat)} {Φ:List (Nat→Value→World→Prop)} {a0:Act} {i:Nat} {o:Oper} {d:List Nat} {c:List (Nat × Nat)} (lo hi:Nat) (hn:ms.contains i=false)
 (hlo:(decide (lo=0) || (D.getD i []).contains (ms.getD (lo - 1) 0) && decide (lo - 1 < ms.length))=true) (hhi:(decide (hi=ms.length) || (D.getD (ms.getD hi 0) []).contains i && decide (hi < ms.length))=true)
 (h:∀(y:Nat→Value) (w:World) (p:Nat),lo≤p→p≤hi→W p w→zD Φ y w p d→∀K:Act→World→Prop,(∀a' v w',a'=(jF y c a0).put o.dst v→S p w w'→Φ.getD i (fun _ _ _=>True) p v w'→K a' w') →
  if Region.wanted o (yielded ops (jF y c a0).tmps) then o.wp P (jF y c a0) w K (fun _ _ _=>False) else K ((jF y c a0).put o.dst undef) w):xD P ops ms W S T D Φ a0 i o d c:=by
 refine⟨?_⟩;intro y w p hp hW hd K hK;have hni:i∉ms:=by simpa using hn
 refine h y w p ?_ ?_ hW hd K (fun a' v w' he hS hφ=>hK a' v w' he ⟨fun hm=>absurd hm hni,fun _=>⟨hS,hφ⟩⟩)
 ·simp only[Bool.or_eq_true,Bool.and_eq_true,decide_eq_true_eq,List.contains_iff_mem] at hlo;rcases hlo with h0|⟨h1,h2⟩
  ·omega
  ·have hg:ms[lo - 1]? = some (ms.getD (lo - 1) 0):=by simp[List.getD_eq_getElem?_getD,h2]
   have:=hp.lo _ _ hg h1;omega
 ·simp only[Bool.or_eq_true,Bool.and_eq_true,decide_eq_true_eq,List.contains_iff_mem] at hhi;rcases hhi with h0|⟨h1,h2⟩
  ·rw[h0];exact hp.le
  ·have hg:ms[hi]? = some (ms.getD hi 0):=by simp[List.getD_eq_getElem?_getD,h2]
   exact hp.hi _ _ hg h1
def allWP (P:Program) (ops:Array Oper) (ms:List Nat) (W:Nat→World→Prop) (S:Nat→World→World→Prop) (T:Nat→(Nat→Value)→World→World→Prop) (D0:List (List Nat)) (Φ:List (Nat→Value→World→Prop)) (a0:Act):Nat→List Oper→List (List Nat)→List (List (Nat × Nat))→Prop
 | _,[],_,_=>True
 | i,o::r,d::ds,c::cs=>xD P ops ms W S T D0 Φ a0 i o d c∧allWP P ops ms W S T D0 Φ a0 (i+1) r ds cs
 | _,_::_,_,_=>False
theorem CJ {ms:List Nat} {W:Nat→World→Prop} {S:Nat→World→World→Prop} {T:Nat→(Nat→Value)→World→World→Prop} {D:List (List Nat)} {Φ:List (Nat→Value→World→Prop)} {a0:Act} {i:Nat} {o:Oper} {d:List Nat} {c:List (Nat × Nat)} (h:∀(y:Nat→Value) (w:World) (p:Nat),0≤p→p≤ms.length→W p w→zD Φ y w p d→∀K:Act→World→Prop,(∀a' v w',a'=(jF y c a0).put o.dst v→S p w w'→Φ.getD i (fun _ _ _=>True) p v w'→K a' w') →
 if Region.wanted o (yielded ops (jF y c a0).tmps) then o.wp P (jF y c a0) w K (fun _ _ _=>False) else K ((jF y c a0).put o.dst undef) w) (hn:ms.contains i=false:=by kernel_rfl):xD P ops ms W S T D Φ a0 i o d c:=gZ 0 ms.length hn zp2 zp2 h
theorem jQ {ms:List Nat} {W:Nat→World→Prop} {S:Nat→World→World→Prop} {T:Nat→(Nat→Value)→World→World→Prop} {D:List (List Nat)} {Φ:List (Nat→Value→World→Prop)} {a0:Act} {i:Nat} {o:Oper} {d:List Nat} {c:List (Nat × Nat)} (lo hi:Nat) (h:∀(y:Nat→Value) (w:World) (p:Nat),lo≤p→p≤hi→W p w→zD Φ y w p d→∀K:Act→World→Prop,(∀a' v w',a'=(jF y c a0).put o.dst v→S p w w'→Φ.getD i (fun _ _ _=>True) p v w'→K a' w') →
 if Region.wanted o (yielded ops (jF y c a0).tmps) then o.wp P (jF y c a0) w K (fun _ _ _=>False) else K ((jF y c a0).put o.dst undef) w) (hn:ms.contains i=false:=by kernel_rfl) (hlo:(decide (lo=0) || (D.getD i []).contains (ms.getD (lo - 1) 0) && decide (lo - 1 < ms.length))=true:=by kernel_rfl) (hhi:(decide (hi=ms.length) || (D.getD (ms.getD hi 0) []).contains i && decide (hi < ms.length))=true:=by kernel_rfl):xD P ops ms W S T D Φ a0 i o d c:=gZ lo hi hn hlo hhi h
theorem sL {ms:List Nat} {W:Nat→World→Prop} {S:Nat→World→World→Prop} {T:Nat→(Nat→Value)→World→World→Prop} {Φ:List (Nat→Value→World→Prop)} {a0:Act} (D0:List (List Nat)) (C0:List (List (Nat × Nat))) (hC:∀i,i < ops.size→C0.getD i []=yP ops D0.toArray i) :
 ∀(l:List Oper) (i:Nat) (D:List (List Nat)) (C:List (List (Nat × Nat))),i+l.length=ops.size→(∀k,D[k]? = D0[i+k]?)→(∀k,C[k]? = C0[i+k]?)→allWP P ops ms W S T D0 Φ a0 i l D C →
  KL (BM P ops ms W S T D0 (fun j=>Φ.getD j (fun _ _ _=>True)) a0) i l:=by
 intro l
 induction l with
 | nil=>intros;trivial
 | cons o r ih=>
  intro i D C hl hD hC' h
  match D,C,h with
  | d::ds,c::cs,h=>
   obtain⟨h1,h2⟩:=h;refine⟨?_,ih (i+1) ds cs zp24 (fun k=>?_) (fun k=>?_) h2⟩
   ·have hd:D0.getD i []=d:=by
     have:=hD 0;simp at this;simp[List.getD_eq_getElem?_getD,← this]
    have hc:yP ops D0.toArray i=c:=by
     rw[← hC i zp24];have:=hC' 0;simp at this;simp[List.getD_eq_getElem?_getD,← this]
    intro y w p hp hW hj K hK;rw[hd] at hj;rw[hc] at hK⊢;exact h1.out y w p hp hW (sK _ hj) K (fun a' v w' he hs=>by subst he;exact hK v w' hs)
   ·exact zb14
   ·exact zb15
def stP (S:Nat→World→World→Prop) (T:Nat→(Nat→Value)→World→World→Prop):Nat→List (Nat→Value→World→Prop)→Prop
 | _,[]=>True
 | j,φ::r=>((∀p v w w',S p w w'→φ p v w→φ p v w')∧∀p v w w',(∃y:Nat→Value,y j=v∧T p y w w')→φ p v w→φ (p+1) v w')∧stP S T (j+1) r
theorem pJ {S:Nat→World→World→Prop} {T:Nat→(Nat→Value)→World→World→Prop}:∀{Φ:List (Nat→Value→World→Prop)} (i:Nat),stP S T i Φ→∀j,(∀p v w w',S p w w'→Φ.getD j (fun _ _ _=>True) p v w→Φ.getD j (fun _ _ _=>True) p v w')∧∀p v w w',(∃y:Nat→Value,y (i+j)=v∧T p y w w')→Φ.getD j (fun _ _ _=>True) p v w→Φ.getD j (fun _ _ _=>True) (p+1) v w'
 | [],_,_,j=>⟨fun _ _ _ _ _ _=>trivial,fun _ _ _ _ _ _=>trivial⟩
 | φ::r,_,h,0=>h.1
 | φ::r,i,h,j+1=>by
  have:=pJ (Φ:=r) (i+1) h.2 j;rw[show i+1+j=i+(j+1) by omega] at this;exact this
theorem K7 {S T0:Nat→World→World→Prop} {φ:Nat→Value→World→Prop} {j:Nat} (h:(∀p v w w',S p w w'→φ p v w→φ p v w')∧∀p v w w',T0 p w w'→φ p v w→φ (p+1) v w') :
 (∀p v w w',S p w w'→φ p v w→φ p v w')∧∀p v w w',(∃y:Nat→Value,y j=v∧(fun p (_:Nat→Value)=>T0 p) p y w w')→φ p v w→φ (p+1) v w':=
 ⟨h.1,fun p v w w' ⟨_,_,hT⟩=>h.2 p v w w' hT⟩
def IsP (u:Value):Nat→Value→World→Prop:=fun _ v _=>v=u
theorem jG {S:Nat→World→World→Prop} {T:Nat→(Nat→Value)→World→World→Prop} {u:Value} {j:Nat}:(∀p v w w',S p w w'→IsP u p v w→IsP u p v w')∧∀p v w w',(∃y:Nat→Value,y j=v∧T p y w w')→IsP u p v w→IsP u (p+1) v w':=⟨fun _ _ _ _ _ h=>h,fun _ _ _ _ _ h=>h⟩
theorem jP {id:Nat} {a0:Act} {w0:World} {Q:Exit→Act→World→Prop} (ms:List Nat) (W:Nat→World→Prop) (S:Nat→World→World→Prop) (T:Nat→(Nat→Value)→World→World→Prop) (D:List (List Nat)) (C:List (List (Nat × Nat))) (F:List (Nat × Nat)) (Φ:List (Nat→Value→World→Prop)) (hm:P.follows .mixedOrders=true)
 (hSW:∀p w w',S p w w'→W p w→W p w') (hW0:W 0 w0.drew) (hchk:J2 ops D C F=true) (hch:QT D ops.size ms=true) (hst:stP S T 0 Φ)
 (kI:Φ.length=ops.size)
 (hfin:∀y w,W ms.length w→yK y w ms.length 0 Φ→Q .normal (jF y F a0) w)
 (hop:allWP P ops ms W S T D Φ a0 0 ops.toList D C):(Code.region id ops true).wp P Q a0 w0:=by
 simp only[J2,Bool.and_eq_true,decide_eq_true_eq,List.all_eq_true,List.mem_range] at hchk;obtain⟨⟨h1,h2⟩,h3⟩:=hchk;subst h2;have hops:=sL D C h3 ops.toList 0 D C zp2 zp2 zp2 hop;refine wp_region_any hm ?_;refine gG (ms:=ms) (W:=W) (S:=S) (T:=T) (Dl:=D) (D:=D.toArray) rfl (Φ:=fun j=>Φ.getD j (fun _ _ _=>True)) (a0:=a0) h1 hch hSW (fun j p v w w' hs h=>(pJ 0 hst j).1 p v w w' hs h) (fun j p y w w' hs h=>(pJ 0 hst j).2 p (y j) w w' ⟨y,by rw[Nat.zero_add],hs⟩ h) (fun i o ho=>?_) (fun y w hW hj=>hfin y w hW (mZ Φ 0 zp2 (fun j h=>hj j (by rw[← kI];simpa using h)))) ops.size _ a0 _ (fun j=>match (ops[j]?).bind (·.dst) with | some d=>a0.tmps.getD d undef | none=>undef) ?_ ⟨by simp,?_,?_,?_,?_,?_⟩
 ·have:=KM _ 0 i o hops (by simpa using ho);simpa using this
 ·exact zb9
 ·exact zb10
 ·have h0:yU (Array.replicate ops.size false) ms=0:=by
   cases ms with
   | nil=>rfl
   | cons m r=>
    have h:(Array.replicate ops.size false).getD m false=false:=(by simp[Array.getD]);unfold yU;rw[h];rfl
  rw[h0];exact hW0
 ·exact xA
 ·exact zb12
 ·exact xA
end
end Go.Proofs.YtdjoffgkndncfaaGreat
