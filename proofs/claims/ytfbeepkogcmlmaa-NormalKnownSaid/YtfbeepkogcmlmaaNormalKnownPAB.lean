/-
  Texts of the proof.
-/
import Derived.Test.YtfbeepkogcmlmaaNormalKnownP00
import Derived.Orders
import Derived.Below
import Derived.KernelRfl
set_option linter.unusedVariables false
set_option linter.unusedSimpArgs false
namespace Go.Proofs.Ytfbeepkogcmlmaa
open Go Go.RowKit
/-! ### growth of the world -/
def jC (w w':World):Prop:=Below w.heap.size w w'
theorem jC.refl (w:World):jC w w:=Below.refl _ _
theorem jC.trans {a b c:World} (h:jC a b) (k:jC b c):jC a c:=Below.trans h (Below.mono k (Below.size h))
theorem jC.size {a b:World} (h:jC a b):a.heap.size≤b.heap.size:=Below.size h
theorem jC.drew {a w:World} (h:jC a w):jC a w.drew:=Below.drew h
theorem jC.alloc {a w:World} (h:jC a w) (o:Obj):jC a (w.alloc o):=Below.alloc h (Below.size h) o
theorem jC.heap {w w':World} (h:jC w w') {k:Nat} {o:Obj} (hk:w.heap[k]? = some o):w'.heap[k]? = some o:=
 (Below.block h k (Array.getElem?_eq_some_iff.1 hk).1).trans hk
theorem vU {w:World} {p:Addr} {v:Value} (hc:w.cell? p=some v):p.block < w.heap.size:=by
 rcases Nat.lt_or_ge p.block w.heap.size with h|h
 ·exact h
 ·simp[World.cell?,Array.getElem?_eq_none h] at hc
theorem jC.cell {w w':World} (h:jC w w') {p:Addr} {v:Value} (hc:w.cell? p=some v):w'.cell? p=some v:=
 (Below.cell h (vU hc)).trans hc
section
variable {P:Program} {ops:Array Oper}
def jD (y:Nat→Value):List (Nat × Nat)→Act→Act
 | [],a=>a
 | (d,j)::r,a=>jD y r (a.put (some d) (y j))
theorem put_put (a:Act) (d:Nat) (u v:Value):(a.put (some d) u).put (some d) v=a.put (some d) v:=by
 simp[Act.put]
theorem JV (y:Nat→Value) (d:Nat) (u:Value):∀(r:List (Nat × Nat)) (a:Act),(∀p∈r,p.1≠d)→jD y r (a.put (some d) u)=(jD y r a).put (some d) u
 | [],_,_=>rfl
 | (e,j)::r,a,h=>by
  have hne:e≠d:=h (e,j) (by simp)
  have hc:(a.put (some d) u).put (some e) (y j)=(a.put (some e) (y j)).put (some d) u:=Act.put_comm a u (y j) (fun x hx hy=>by cases hx;cases hy;exact hne rfl)
  show jD y r ((a.put (some d) u).put (some e) (y j))=_
  rw[hc]
  exact JV y d u r _ (fun p hp=>h p (by simp[hp]))
theorem zN (y z:Nat→Value):∀(r:List (Nat × Nat)) (a:Act),(∀p∈r,y p.2=z p.2)→jD y r a=jD z r a
 | [],_,_=>rfl
 | (e,j)::r,a,h=>by
  show jD y r (a.put (some e) (y j))=jD z r (a.put (some e) (z j))
  rw[h (e,j) (by simp)]
  exact zN y z r _ (fun p hp=>h p (by simp[hp]))
def JW:List (Nat × Nat)→Bool
 | []=>true
 | p::r=>r.all (fun q=>q.1 != p.1 && q.2 != p.2) && JW r
theorem yR (y:Nat→Value) (i:Nat) (v:Value):∀(L:List (Nat × Nat)) (a:Act) (d:Nat),JW L=true→(d,i)∈L →
 jD (fun k=>if k=i then v else y k) L a=(jD y L a).put (some d) v
 | (e,j)::r,a,d,hk,hm=>by
  simp only[JW,Bool.and_eq_true,List.all_eq_true,bne_iff_ne] at hk
  obtain⟨hne,hk⟩:=hk
  show jD _ r (a.put (some e) (if j=i then v else y j))=(jD y r (a.put (some e) (y j))).put (some d) v
  rcases List.mem_cons.1 hm with h|h
  ·obtain⟨rfl,rfl⟩:=Prod.mk.injEq .. ▸ h
   rw[if_pos rfl,zN _ y r _ (fun p hp=>if_neg (hne p hp).2),JV y d v r a (fun p hp=>(hne p hp).1),JV y d (y i) r a (fun p hp=>(hne p hp).1),put_put]
  ·have hij:j≠i:=fun he=>(hne _ h).2 he.symm
   rw[if_neg hij]
   exact yR y i v r _ d hk h
theorem k3 (y:Nat→Value) (p:Nat × Nat→Bool):∀(L:List (Nat × Nat)) (a:Act),JW L=true→(∀q∈L,p q=false→a.put (some q.1) (y q.2)=a) →
 jD y (L.filter p) a=jD y L a
 | [],_,_,_=>rfl
 | (e,j)::r,a,hk,h=>by
  simp only[JW,Bool.and_eq_true,List.all_eq_true,bne_iff_ne] at hk
  obtain⟨hne,hk⟩:=hk
  have hr:∀q∈r,p q=false→(a.put (some e) (y j)).put (some q.1) (y q.2)=a.put (some e) (y j):=fun q hq hp=>by
   rw[← Act.put_comm a (y q.2) (y j) (fun x hx hy=>by cases hx;cases hy;exact (hne q hq).1 rfl),h q (by simp[hq]) hp]
  cases hp:p (e,j) with
  | true=>
   rw[List.filter_cons_of_pos hp]
   exact k3 y p r _ hk hr
  | false=>
   rw[List.filter_cons_of_neg (by simp[hp])]
   have h0:=h (e,j) (by simp) hp
   show jD y (r.filter p) a=jD y r (a.put (some e) (y j))
   simp only at h0
   rw[h0] at hr⊢
   exact k3 y p r _ hk hr
def kF (ops:Array Oper):List (Nat × Nat):=(List.range ops.size).filterMap fun j=>((ops[j]?).bind (·.dst)).map fun d=>(d,j)
theorem mem_pairsOf {d j:Nat}:(d,j)∈kF ops↔(ops[j]?).bind (·.dst)=some d:=by
 unfold kF
 rw[List.mem_filterMap]
 constructor
 ·rintro ⟨k,_,hk⟩
  cases hd:(ops[k]?).bind (·.dst) with
  | none=>simp[hd] at hk
  | some e=>simp[hd] at hk;obtain⟨rfl,rfl⟩:=hk;exact hd
 ·intro h
  refine⟨j,?_,by simp[h]⟩
  rw[List.mem_range]
  rcases Nat.lt_or_ge j ops.size with h'|h'
  ·exact h'
  ·rw[Array.getElem?_eq_none h'] at h;cases h
def qN (D:Array (List Nat)) (i j:Nat):Bool:=(D.getD j []).contains i
def kT (ops:Array Oper) (D:Array (List Nat)) (i:Nat):List (Nat × Nat):=(kF ops).filter fun q=>!(q.2 == i || qN D i q.2)
def zJ (ops:Array Oper) (D:Array (List Nat)):Bool:=
 JW (kF ops) &&
 (List.range ops.size).all fun i=>
  match ops[i]? with
  | none=>true
  | some o=>
   let es:=(o.after.toList.filter (Region.binds .any)).map (·.on)
   es.all (fun e=>e < i) && (D.getD i []).all fun k=>es.any fun e=>e == k || (D.getD e []).contains k
def vV (P:Program) (ops:Array Oper) (R:World→World→Prop) (D:Array (List Nat)) (Φ:Nat→Value→World→Prop) (a0:Act) (w0:World) (i:Nat) (o:Oper):Prop:=
 ∀(y:Nat→Value) (w:World),R w0 w→(∀j∈D.getD i [],Φ j (y j) w)→∀K:Act→World→Prop,
  (∀v w',R w w'→Φ i v w'→K ((jD y (kT ops D i) a0).put o.dst v) w') →
  if Region.wanted o (yielded ops (jD y (kT ops D i) a0).tmps) then o.wp P (jD y (kT ops D i) a0) w K (fun _ _ _=>False) else K ((jD y (kT ops D i) a0).put o.dst undef) w
def yB (p:Nat→Oper→Prop):Nat→List Oper→Prop
 | _,[]=>True
 | i,o::r=>p i o∧yB p (i+1) r
theorem yA {p:Nat→Oper→Prop}:∀(l:List Oper) (i k:Nat) (o:Oper),yB p i l→l[k]? = some o→p (i+k) o:=by
 intro l
 induction l with
 | nil=>intro i k o _ hk;cases hk
 | cons o' r ih=>
  intro i k o h hk
  cases k with
  | zero=>
   rw[List.getElem?_cons_zero,Option.some.injEq] at hk
   rw[← hk];exact h.1
  | succ k=>
   rw[List.getElem?_cons_succ] at hk
   have h2:=ih (i+1) k o h.2 hk
   have e:i+(k+1)=i+1+k:=by omega
   rw[e];exact h2
theorem yS {p q:Nat→Bool}:∀(l:List Nat) (i:Nat),(∀j,q j=true→p j=true)→i∈l→p i=true→q i=false→(l.filter q).length < (l.filter p).length
 | x::l,i,h,hm,hp,hq=>by
  have hle:∀l:List Nat,(l.filter q).length≤(l.filter p).length:=fun l=>by
   induction l with
   | nil=>simp
   | cons y l ih=>
    cases hqy:q y with
    | true=>rw[List.filter_cons_of_pos hqy,List.filter_cons_of_pos (h y hqy)];simpa using ih
    | false=>
     rw[List.filter_cons_of_neg (by simp[hqy])]
     cases hpy:p y with
     | true=>rw[List.filter_cons_of_pos hpy];simp;omega
     | false=>rw[List.filter_cons_of_neg (by simp[hpy])];exact ih
  rcases List.mem_cons.1 hm with he|he
  ·subst he
   rw[List.filter_cons_of_pos hp,List.filter_cons_of_neg (by simp[hq])]
   have:=hle l
   simp;omega
  ·have ih:=yS l i h he hp hq
   cases hqx:q x with
   | true=>rw[List.filter_cons_of_pos hqx,List.filter_cons_of_pos (h x hqx)];simpa using ih
   | false=>
    rw[List.filter_cons_of_neg (by simp[hqx])]
    cases hpx:p x with
    | true=>rw[List.filter_cons_of_pos hpx];simp;omega
    | false=>rw[List.filter_cons_of_neg (by simp[hpx])];exact ih
structure QW (ops:Array Oper) (R:World→World→Prop) (D:Array (List Nat)) (Φ:Nat→Value→World→Prop) (a0:Act) (w0:World) (jE:Array Bool) (a:Act) (w:World) (y:Nat→Value):Prop where
 size:jE.size=ops.size
 act:a=jD y (kF ops) a0
 grown:R w0 w
 facts:∀j,jE.getD j false=true→Φ j (y j) w
 open_:∀j d,jE.getD j true=false→(ops[j]?).bind (·.dst)=some d→a0.put (some d) (y j)=a0
 closed:∀j,jE.getD j false=true→∀k∈D.getD j [],jE.getD k false=true
theorem zR (a:Act) (d:Nat):a.put (some d) (a.tmps.getD d undef)=a:=by
 cases a with
 | mk t df=>
  simp only[Act.put]
  congr 1
  apply Array.ext
  ·simp
  ·intro i h1 h2
   rw[Array.getElem_setIfInBounds h2]
   split
   ·rename_i he;subst he;simp[Array.getD,h2]
   ·rfl
theorem jV {jE:Array Bool} {j:Nat} (hj:j < jE.size):jE.getD j true=jE.getD j false:=by
 simp[Array.getD,hj]
theorem K0 {R:World→World→Prop} {D:Array (List Nat)} {Φ:Nat→Value→World→Prop} {a0:Act} {w0:World} {Q:Exit→Act→World→Prop}
 (hRt:∀{a b c:World},R a b→R b c→R a c) (hchk:zJ ops D=true) (hst:∀j v w w',R w w'→Φ j v w→Φ j v w') (hrr:∀w,R w w)
 (hop:∀i o,ops[i]? = some o→vV P ops R D Φ a0 w0 i o)
 (hfin:∀y w,R w0 w→(∀j,j < ops.size→Φ j (y j) w)→Q .normal (jD y (kF ops) a0) w) :
 ∀(fuel:Nat) (jE:Array Bool) (a:Act) (w:World) (y:Nat→Value),((List.range ops.size).filter fun j=>!jE.getD j true).length≤fuel →
  QW ops R D Φ a0 w0 jE a w y→wpAny P .any ops Q fuel jE a w:=by
 simp only[zJ,Bool.and_eq_true,List.all_eq_true,List.mem_range] at hchk
 obtain⟨kZ,kS⟩:=hchk
 -- nothing ready: all has been jE
 have qH:∀(jE:Array Bool),jE.size=ops.size→Region.ready .any ops jE=[]→∀j,j < ops.size→jE.getD j false=true:=by
  intro jE hs zE j
  induction j using Nat.strongRecOn with
  | ind j ih=>
   intro hj
   cases hl:jE.getD j false with
   | true=>rfl
   | false=>
    exfalso
    have hmem:j∈Region.ready .any ops jE:=by
     rw[mem_ready]
     refine⟨by rw[jV (by omega)];exact hl,ops[j],Array.getElem?_eq_getElem hj,fun e he hb=>?_⟩
     have jP:=kS j hj
     rw[Array.getElem?_eq_getElem hj] at jP
     simp only[Bool.and_eq_true,List.all_eq_true,decide_eq_true_eq] at jP
     have hlt:=jP.1 e.on (List.mem_map.2 ⟨e,List.mem_filter.2 ⟨by simpa using he,hb⟩,rfl⟩)
     exact ih e.on hlt (by omega)
    rw[zE] at hmem
    cases hmem
 have hdone:∀(jE:Array Bool) (a:Act) (w:World) (y:Nat→Value),QW ops R D Φ a0 w0 jE a w y→Region.ready .any ops jE=[]→Q .normal a w:=by
  intro jE a w y hI zE
  rw[hI.act]
  exact hfin y w hI.grown (fun j hj=>hI.facts j (qH jE hI.size zE j hj))
 intro fuel
 induction fuel with
 | zero=>
  intro jE a w y kV hI
  have zE:Region.ready .any ops jE=[]:=by
   have h0:((List.range ops.size).filter fun j=>!jE.getD j true)=[]:=List.length_eq_zero_iff.1 (by omega)
   refine List.eq_nil_iff_forall_not_mem.2 fun j hj=>?_
   have hj':=mem_ready.1 hj
   have:j∈((List.range ops.size).filter fun j=>!jE.getD j true):=by
    obtain⟨hl,o,ho,_⟩:=hj'
    exact List.mem_filter.2 ⟨List.mem_range.2 (Array.getElem?_eq_some_iff.1 ho).1,by simp[hl]⟩
   rw[h0] at this
   cases this
  exact⟨zE,hdone jE a w y hI zE⟩
 | succ fuel ih=>
  intro jE a w y kV hI
  refine⟨hdone jE a w y hI,fun i hi=>?_⟩
  obtain⟨hun,o,ho,hedges⟩:=mem_ready.1 hi
  have hilt:i < ops.size:=(Array.getElem?_eq_some_iff.1 ho).1
  have hunf:jE.getD i false=false:=by rw[← jV (by rw[hI.size];exact hilt)];exact hun
  have jP:=kS i hilt
  rw[ho] at jP
  simp only[Bool.and_eq_true,List.all_eq_true,decide_eq_true_eq,List.any_eq_true,Bool.or_eq_true,beq_iff_eq,List.contains_iff_mem] at jP
  -- what i qN for has been jE
  have hD:∀k∈D.getD i [],jE.getD k false=true:=by
   intro k hk
   obtain⟨e,he,hek⟩:=jP.2 k hk
   obtain⟨ed,hed,rfl⟩:=List.mem_map.1 he
   obtain⟨hed1,hed2⟩:=List.mem_filter.1 hed
   have hl:=hedges ed (by simpa using hed1) hed2
   rcases hek with rfl|hek
   ·exact hl
   ·exact hI.closed _ hl k hek
  have hcan:jD y (kT ops D i) a0=a:=by
   rw[hI.act]
   refine k3 y _ _ a0 kZ ?_
   rintro ⟨d,j⟩ hq hp
   simp only[Bool.not_eq_false',Bool.or_eq_true,beq_iff_eq] at hp
   have hdst:=mem_pairsOf.1 hq
   refine hI.open_ j d ?_ hdst
   rcases hp with rfl|hw
   ·exact hun
   ·have hjlt:j < jE.size:=by
     rw[hI.size]
     rcases Nat.lt_or_ge j ops.size with h'|h'
     ·exact h'
     ·rw[Array.getElem?_eq_none h'] at hdst;cases hdst
    rw[jV hjlt]
    cases hl:jE.getD j false with
    | false=>rfl
    | true=>
     have:=hI.closed j hl i (by simpa [qN] using hw)
     rw[hunf] at this
     cases this
  have hw:=hop i o ho y w hI.grown (fun j hj=>hI.facts j (hD j hj)) (fun a' w'=>∃v,a'=a.put o.dst v∧R w w'∧Φ i v w')
  rw[hcan] at hw
  have hlen':((List.range ops.size).filter fun j=>!(jE.setIfInBounds i true).getD j true).length≤fuel:=by
   have:((List.range ops.size).filter fun j=>!(jE.setIfInBounds i true).getD j true).length < ((List.range ops.size).filter fun j=>!jE.getD j true).length:=by
    refine yS _ i (fun j hj=>?_) (List.mem_range.2 hilt) (by rw[hun];rfl) ?_
    ·by_cases hij:i=j
     ·subst hij
      have h2:i < jE.size:=by rw[hI.size];exact hilt
      simp[h2] at hj
     ·rw[getD_set_ne true hij] at hj;exact hj
    ·have h2:i < jE.size:=by rw[hI.size];exact hilt
     simp[h2]
   omega
  have hnext:∀v w',R w w'→Φ i v w'→wpAny P .any ops Q fuel (jE.setIfInBounds i true) (a.put o.dst v) w':=by
   intro v w' hr hφ
   have h2:i < jE.size:=by rw[hI.size];exact hilt
   refine ih _ _ _ (fun k=>if k=i then v else y k) hlen' ⟨by simp[hI.size],?_,hRt hI.grown hr,?_,?_,?_⟩
   ·cases hd:o.dst with
    | none=>
     rw[hI.act]
     show jD y (kF ops) a0=_
     refine zN _ _ _ _ fun p hp=>?_
     have:=mem_pairsOf.1 (show (p.1,p.2)∈kF ops from hp)
     have hne:p.2≠i:=fun he=>by rw[he,ho] at this;simp[hd] at this
     simp[hne]
    | some d=>
     rw[hI.act,yR y i v _ a0 d kZ (mem_pairsOf.2 (by simp[ho,hd]))]
   ·intro j hj
    by_cases hji:j=i
    ·subst hji;simpa using hφ
    ·simp only[hji,if_false]
     rw[getD_set_ne false (Ne.symm hji)] at hj
     exact hst j _ _ _ hr (hI.facts j hj)
   ·intro j d hj hdst
    have hji:j≠i:=fun he=>by subst he;simp[h2] at hj
    simp only[hji,if_false]
    rw[getD_set_ne true (Ne.symm hji)] at hj
    exact hI.open_ j d hj hdst
   ·intro j hj k hk
    by_cases hji:j=i
    ·subst hji;exact getD_set_true (hD k hk)
    ·rw[getD_set_ne false (Ne.symm hji)] at hj
     exact getD_set_true (hI.closed j hj k hk)
  unfold wpOp
  simp only[ho]
  have hw2:=hw (fun v w' hr hφ=>⟨v,rfl,hr,hφ⟩)
  split at hw2
  ·rename_i hwa
   rw[if_pos hwa]
   refine .inl ?_
   have h3:o.wp P a w (wpAny P .any ops Q fuel (jE.setIfInBounds i true)) (fun _ _ _=>False):=
    Oper.wp_mono (fun a' w' ⟨v,he,hr,hφ⟩=>by subst he;exact hnext v w' hr hφ) hw2
   exact wp_exit h3
  ·rename_i hwa
   rw[if_neg hwa]
   obtain⟨v,he,hr,hφ⟩:=hw2
   rw[he]
   exact hnext v w hr hφ
where
 wp_exit {o:Oper} {a:Act} {w:World} {K:Act→World→Prop} {Q:Exit→Act→World→Prop} (h:o.wp P a w K (fun _ _ _=>False)):o.wp P a w K Q:=by
  unfold Oper.wp at *
  generalize (execOp a.eval o).run P w=r at *
  cases r with
  | ok n w'=>
   cases n<;>simp only[Oper.upon] at h⊢
   case enter f args=>
    refine Calls.mono h fun e w'' he=>?_
    cases e with
    | returned v=>exact he
    | panicked c=>exact he.elim
    | outgrown=>obtain⟨_,_,hq⟩:=he;exact hq.elim
   all_goals exact h
  | halt x w'=>cases x<;>simp only[Oper.upon] at h
theorem KN {id:Nat} {a0:Act} {w0:World} {Q:Exit→Act→World→Prop} (R:World→World→Prop) (D:Array (List Nat)) (Φ:Nat→Value→World→Prop) (hm:P.follows .mixedOrders=true)
 (hRt:∀{a b c:World},R a b→R b c→R a c) (hrr:∀w,R w w) (hd:R w0 w0.drew) (hchk:zJ ops D=true) (hst:∀j v w w',R w w'→Φ j v w→Φ j v w')
 (hop:yB (vV P ops R D Φ a0 w0) 0 ops.toList)
 (hfin:∀y w,R w0 w→(∀j,j < ops.size→Φ j (y j) w)→Q .normal (jD y (kF ops) a0) w):(Code.region id ops true).wp P Q a0 w0:=by
 refine wp_region_any hm ?_
 refine K0 (R:=R) (D:=D) (Φ:=Φ) (a0:=a0) (w0:=w0) hRt hchk hst hrr (fun i o ho=>?_) hfin ops.size _ a0 _ (fun j=>match (ops[j]?).bind (·.dst) with | some d=>a0.tmps.getD d undef | none=>undef) ?_ ⟨by simp,?_,hd,?_,?_,?_⟩
 ·have:=yA _ 0 i o hop (by simpa using ho)
  simpa using this
 ·exact Nat.le_trans (List.length_filter_le _ _) (by simp)
 ·symm
  have:∀(L:List (Nat × Nat)),(∀p∈L,(ops[p.2]?).bind (·.dst)=some p.1)→jD (fun j=>match (ops[j]?).bind (·.dst) with | some d=>a0.tmps.getD d undef | none=>undef) L a0=a0:=by
   intro L
   induction L with
   | nil=>intro _;rfl
   | cons p L ih=>
    intro h
    obtain⟨d,j⟩:=p
    have hd:=h (d,j) (by simp)
    simp only at hd
    show jD _ L (a0.put (some d) _)=a0
    simp only[hd]
    rw[zR]
    exact ih (fun p hp=>h p (by simp[hp]))
  exact this _ (fun p hp=>mem_pairsOf.1 hp)
 ·intro j hj
  have h:(Array.replicate ops.size false).getD j false=false:=by
   simp[Array.getD]
  rw[h] at hj;cases hj
 ·intro j d _ hdst
  simp only[hdst]
  exact zR a0 d
 ·intro j hj
  have h:(Array.replicate ops.size false).getD j false=false:=by
   simp[Array.getD]
  rw[h] at hj;cases hj
/-! ### the same with written-out tables -/
def Is (v:Value) (u:Value) (_:World):Prop:=u=v
def jM (Φ:List (Value→World→Prop)) (y:Nat→Value) (w:World):List Nat→Prop
 | []=>True
 | j::r=>Φ.getD j (fun _ _=>True) (y j) w∧jM Φ y w r
theorem q8 {Φ:List (Value→World→Prop)} {y:Nat→Value} {w:World}:∀(d:List Nat),(∀j∈d,Φ.getD j (fun _ _=>True) (y j) w)→jM Φ y w d
 | [],_=>trivial
 | j::r,h=>⟨h j (by simp),q8 r (fun k hk=>h k (by simp[hk]))⟩
def stL (R:World→World→Prop):List (Value→World→Prop)→Prop
 | []=>True
 | φ::r=>(∀v w w',R w w'→φ v w→φ v w')∧stL R r
theorem JF {R:World→World→Prop}:∀(Φ:List (Value→World→Prop)),stL R Φ→∀φ∈Φ,∀v w w',R w w'→φ v w→φ v w'
 | φ::r,h,ψ,hm=>by
  rcases List.mem_cons.1 hm with e|e
  ·subst e;exact h.1
  ·exact JF r h.2 ψ e
theorem jG {R:World→World→Prop} {x:Value}:∀v w w',R w w'→Is x v w→Is x v w':=fun _ _ _ _ h=>h
def zH (y:Nat→Value) (w:World):Nat→List (Value→World→Prop)→Prop
 | _,[]=>True
 | i,φ::r=>φ (y i) w∧zH y w (i+1) r
theorem qO {Φ0:List (Value→World→Prop)} {y:Nat→Value} {w:World}:∀(Φ:List (Value→World→Prop)) (i:Nat),(∀k,Φ[k]? = Φ0[i+k]?)→(∀j,j < i+Φ.length→Φ0.getD j (fun _ _=>True) (y j) w)→zH y w i Φ
 | [],_,_,_=>trivial
 | φ::r,i,h,hj=>by
  refine⟨?_,qO r (i+1) (fun k=>?_) (fun j hj'=>hj j (by simp;omega))⟩
  ·have h0:=hj i (by simp)
   have:=h 0
   simp at this
   simpa [List.getD_eq_getElem?_getD,← this] using h0
  ·have:=h (k+1)
   simp at this
   rw[this];congr 1;omega
def word (P:Program) (ops:Array Oper) (R:World→World→Prop) (Φ:List (Value→World→Prop)) (a0:Act) (w0:World) (i:Nat) (o:Oper) (d:List Nat) (c:List (Nat × Nat)):Prop:=
 ∀(y:Nat→Value) (w:World),R w0 w→jM Φ y w d→∀K:Act→World→Prop,
  (∀a' v w',a'=(jD y c a0).put o.dst v→R w w'→Φ.getD i (fun _ _=>True) v w'→K a' w') →
  if Region.wanted o (yielded ops (jD y c a0).tmps) then o.wp P (jD y c a0) w K (fun _ _ _=>False) else K ((jD y c a0).put o.dst undef) w
def allW (P:Program) (ops:Array Oper) (R:World→World→Prop) (Φ:List (Value→World→Prop)) (a0:Act) (w0:World):Nat→List Oper→List (List Nat)→List (List (Nat × Nat))→Prop
 | _,[],_,_=>True
 | i,o::r,d::ds,c::cs=>word P ops R Φ a0 w0 i o d c∧allW P ops R Φ a0 w0 (i+1) r ds cs
 | _,_::_,_,_=>False
def zS (ops:Array Oper) (D:List (List Nat)) (C:List (List (Nat × Nat))) (F:List (Nat × Nat)):Bool:=
 zJ ops D.toArray && (decide (F=kF ops)) && (List.range ops.size).all fun i=>decide (C.getD i []=kT ops D.toArray i)
theorem K1 {R:World→World→Prop} {Φ:List (Value→World→Prop)} {a0:Act} {w0:World} (D0:List (List Nat)) (C0:List (List (Nat × Nat))) (hC:∀i,i < ops.size→C0.getD i []=kT ops D0.toArray i) :
 ∀(l:List Oper) (i:Nat) (D:List (List Nat)) (C:List (List (Nat × Nat))),i+l.length=ops.size→(∀k,D[k]? = D0[i+k]?)→(∀k,C[k]? = C0[i+k]?)→allW P ops R Φ a0 w0 i l D C →
  yB (vV P ops R D0.toArray (fun j=>Φ.getD j (fun _ _=>True)) a0 w0) i l:=by
 intro l
 induction l with
 | nil=>intros;trivial
 | cons o r ih=>
  intro i D C hl hD hC' h
  match D,C,h with
  | d::ds,c::cs,h=>
   obtain⟨h1,h2⟩:=h
   refine⟨?_,ih (i+1) ds cs (by simp at hl;omega) (fun k=>?_) (fun k=>?_) h2⟩
   ·have hd:D0.toArray.getD i []=d:=by
     have:=hD 0
     simp at this
     simp[Array.getD_eq_getD_getElem?,← this]
    have hc:kT ops D0.toArray i=c:=by
     rw[← hC i (by simp at hl;omega)]
     have:=hC' 0
     simp at this
     simp[List.getD_eq_getElem?_getD,← this]
    intro y w hR hj K hK
    rw[hd] at hj
    rw[hc] at hK⊢
    exact h1 y w hR (q8 _ hj) K (fun a' v w' he hr hφ=>by subst he;exact hK v w' hr hφ)
   ·have:=hD (k+1)
    simp at this
    rw[this];congr 1;omega
   ·have:=hC' (k+1)
    simp at this
    rw[this];congr 1;omega
theorem kN {id:Nat} {a0:Act} {w0:World} {Q:Exit→Act→World→Prop} (R:World→World→Prop) (D:List (List Nat)) (C:List (List (Nat × Nat))) (F:List (Nat × Nat)) (Φ:List (Value→World→Prop)) (hm:P.follows .mixedOrders=true)
 (hRt:∀{a b c:World},R a b→R b c→R a c) (hrr:∀w,R w w) (hd:R w0 w0.drew) (hchk:zS ops D C F=true) (hst:stL R Φ)
 (hop:allW P ops R Φ a0 w0 0 ops.toList D C)
 (kV:Φ.length=ops.size)
 (hfin:∀y w,R w0 w→zH y w 0 Φ→Q .normal (jD y F a0) w):(Code.region id ops true).wp P Q a0 w0:=by
 simp only[zS,Bool.and_eq_true,decide_eq_true_eq,List.all_eq_true,List.mem_range] at hchk
 obtain⟨⟨h1,h2⟩,h3⟩:=hchk
 subst h2
 refine KN R D.toArray (fun j=>Φ.getD j (fun _ _=>True)) hm hRt hrr hd h1 ?_ (K1 D C h3 ops.toList 0 D C (by simp) (by simp) (by simp) hop) (fun y w hr hj=>hfin y w hr (qO Φ 0 (by simp) (fun j h=>hj j (by rw[← kV];simpa using h))))
 intro j v w w' hr hφ
 rcases Nat.lt_or_ge j Φ.length with hj|hj
 ·have e:Φ.getD j (fun _ _=>True)=Φ[j]:=by simp[List.getD_eq_getElem?_getD,hj]
  rw[e] at hφ⊢
  exact JF Φ hst _ (List.getElem_mem hj) v w w' hr hφ
 ·have e:Φ.getD j (fun _ _=>True)=fun _ _=>True:=by simp[List.getD_eq_getElem?_getD,hj]
  rw[e];trivial
end
section
variable {P:Program} {ops:Array Oper}
def aT (ops:Array Oper):Bool:=
 (List.range (ops.size - 1)).all fun j=>(List.range ops.size).any fun k=>decide (j < k) && match ops[k]? with | some o=>o.after.any fun e=>Region.binds .any e && e.on == j | none=>false
theorem KO {R:World→World→Prop} {D:Array (List Nat)} {Φ:Nat→Value→World→Prop} {a0:Act} {w0:World} {Q:Exit→Act→World→Prop}
 (hRt:∀{a b c:World},R a b→R b c→R a c) (hchk:zJ ops D=true) (hst:∀j v w w',R w w'→Φ j v w→Φ j v w') (hrr:∀w,R w w)
 (hop:∀i o,i+1 < ops.size→ops[i]? = some o→vV P ops R D Φ a0 w0 i o) (hpos:0 < ops.size) (hsink:aT ops=true)
 (hfin:∀o,ops[ops.size - 1]? = some o→∀y w,R w0 w→(∀j,j+1 < ops.size→Φ j (y j) w)→∀a,a=jD y (kT ops D (ops.size - 1)) a0 →
  if Region.wanted o (yielded ops a.tmps) then o.wp P a w (fun a' w'=>Q .normal a' w') (fun _ _ _=>False) else Q .normal (a.put o.dst undef) w) :
 ∀(fuel:Nat) (jE:Array Bool) (a:Act) (w:World) (y:Nat→Value),((List.range ops.size).filter fun j=>!jE.getD j true).length≤fuel →
  QW ops R D Φ a0 w0 jE a w y→(∀j o,ops[j]? = some o→jE.getD j false=true→∀e∈o.after,Region.binds .any e=true→jE.getD e.on false=true)→jE.getD (ops.size - 1) true=false→wpAny P .any ops Q fuel jE a w:=by
 simp only[zJ,Bool.and_eq_true,List.all_eq_true,List.mem_range] at hchk
 obtain⟨kZ,kS⟩:=hchk
 -- nothing ready: all has been jE
 have qH:∀(jE:Array Bool),jE.size=ops.size→Region.ready .any ops jE=[]→∀j,j < ops.size→jE.getD j false=true:=by
  intro jE hs zE j
  induction j using Nat.strongRecOn with
  | ind j ih=>
   intro hj
   cases hl:jE.getD j false with
   | true=>rfl
   | false=>
    exfalso
    have hmem:j∈Region.ready .any ops jE:=by
     rw[mem_ready]
     refine⟨by rw[jV (by omega)];exact hl,ops[j],Array.getElem?_eq_getElem hj,fun e he hb=>?_⟩
     have jP:=kS j hj
     rw[Array.getElem?_eq_getElem hj] at jP
     simp only[Bool.and_eq_true,List.all_eq_true,decide_eq_true_eq] at jP
     have hlt:=jP.1 e.on (List.mem_map.2 ⟨e,List.mem_filter.2 ⟨by simpa using he,hb⟩,rfl⟩)
     exact ih e.on hlt (by omega)
    rw[zE] at hmem
    cases hmem
 have hdone:∀(jE:Array Bool) (a:Act) (w:World) (y:Nat→Value),QW ops R D Φ a0 w0 jE a w y→jE.getD (ops.size - 1) true=false→Region.ready .any ops jE=[]→Q .normal a w:=by
  intro jE a w y hI hl zE
  have:=qH jE hI.size zE (ops.size - 1) (by omega)
  rw[← jV (by rw[hI.size];omega),hl] at this
  cases this
 intro fuel
 induction fuel with
 | zero=>
  intro jE a w y kV hI hE hL
  have zE:Region.ready .any ops jE=[]:=by
   have h0:((List.range ops.size).filter fun j=>!jE.getD j true)=[]:=List.length_eq_zero_iff.1 (by omega)
   refine List.eq_nil_iff_forall_not_mem.2 fun j hj=>?_
   have hj':=mem_ready.1 hj
   have:j∈((List.range ops.size).filter fun j=>!jE.getD j true):=by
    obtain⟨hl,o,ho,_⟩:=hj'
    exact List.mem_filter.2 ⟨List.mem_range.2 (Array.getElem?_eq_some_iff.1 ho).1,by simp[hl]⟩
   rw[h0] at this
   cases this
  exact⟨zE,hdone jE a w y hI hL zE⟩
 | succ fuel ih=>
  intro jE a w y kV hI hE hL
  refine⟨hdone jE a w y hI hL,fun i hi=>?_⟩
  obtain⟨hun,o,ho,hedges⟩:=mem_ready.1 hi
  have hilt:i < ops.size:=(Array.getElem?_eq_some_iff.1 ho).1
  have hunf:jE.getD i false=false:=by rw[← jV (by rw[hI.size];exact hilt)];exact hun
  have jP:=kS i hilt
  rw[ho] at jP
  simp only[Bool.and_eq_true,List.all_eq_true,decide_eq_true_eq,List.any_eq_true,Bool.or_eq_true,beq_iff_eq,List.contains_iff_mem] at jP
  -- what i qN for has been jE
  have hD:∀k∈D.getD i [],jE.getD k false=true:=by
   intro k hk
   obtain⟨e,he,hek⟩:=jP.2 k hk
   obtain⟨ed,hed,rfl⟩:=List.mem_map.1 he
   obtain⟨hed1,hed2⟩:=List.mem_filter.1 hed
   have hl:=hedges ed (by simpa using hed1) hed2
   rcases hek with rfl|hek
   ·exact hl
   ·exact hI.closed _ hl k hek
  have hcan:jD y (kT ops D i) a0=a:=by
   rw[hI.act]
   refine k3 y _ _ a0 kZ ?_
   rintro ⟨d,j⟩ hq hp
   simp only[Bool.not_eq_false',Bool.or_eq_true,beq_iff_eq] at hp
   have hdst:=mem_pairsOf.1 hq
   refine hI.open_ j d ?_ hdst
   rcases hp with rfl|hw
   ·exact hun
   ·have hjlt:j < jE.size:=by
     rw[hI.size]
     rcases Nat.lt_or_ge j ops.size with h'|h'
     ·exact h'
     ·rw[Array.getElem?_eq_none h'] at hdst;cases hdst
    rw[jV hjlt]
    cases hl:jE.getD j false with
    | false=>rfl
    | true=>
     have:=hI.closed j hl i (by simpa [qN] using hw)
     rw[hunf] at this
     cases this
  by_cases hlast:i=ops.size - 1
  ·-- the last: all others have been jE
   subst hlast
   have hothers:∀d j,ops.size - 1 - j=d→j+1 < ops.size→jE.getD j false=true:=by
    intro d
    induction d using Nat.strongRecOn with
    | ind d ihd=>
     intro j hd hj
     have h1:=List.all_eq_true.1 hsink j (List.mem_range.2 (by omega))
     obtain⟨k,hk,hk2⟩:=List.any_eq_true.1 h1
     simp only[Bool.and_eq_true,decide_eq_true_eq] at hk2
     have hkn:=List.mem_range.1 hk
     obtain⟨hjk,hwt⟩:=hk2
     cases hok:ops[k]? with
     | none=>simp[hok] at hwt
     | some ok=>
      simp only[hok,Array.any_eq_true'] at hwt
      obtain⟨e,he,hb⟩:=hwt
      simp only[Bool.and_eq_true,beq_iff_eq] at hb
      rw[← hb.2]
      by_cases hkl:k=ops.size - 1
      ·subst hkl
       rw[ho] at hok;cases hok
       exact hedges e he hb.1
      ·exact hE k ok hok (ihd (ops.size - 1 - k) (by omega) k rfl (by omega)) e he hb.1
   have hfl:=hfin o ho y w hI.grown (fun j hj=>hI.facts j (hothers _ j rfl hj)) a hcan.symm
   have hend:∀v w',Q .normal v w'→wpAny P .any ops Q fuel (jE.setIfInBounds (ops.size - 1) true) v w':=by
    intro v w' hq
    have zE:Region.ready .any ops (jE.setIfInBounds (ops.size - 1) true)=[]:=by
     refine List.eq_nil_iff_forall_not_mem.2 fun j hj=>?_
     obtain⟨hl,o',ho',_⟩:=mem_ready.1 hj
     have hjlt:j < ops.size:=(Array.getElem?_eq_some_iff.1 ho').1
     by_cases hjl:ops.size - 1=j
     ·subst hjl
      have h2:ops.size - 1 < jE.size:=by rw[hI.size];exact hilt
      simp[h2] at hl
     ·rw[getD_set_ne true hjl,jV (by rw[hI.size];exact hjlt),hothers _ j rfl (by omega)] at hl
      cases hl
    cases fuel with
    | zero=>exact⟨zE,hq⟩
    | succ f=>exact⟨fun _=>hq,fun j hj=>by rw[zE] at hj;cases hj⟩
   unfold wpOp
   simp only[ho]
   split at hfl
   ·rename_i hwa
    rw[if_pos hwa]
    exact .inl (wp_exit (Oper.wp_mono (fun a' w' hq=>hend a' w' hq) hfl))
   ·rename_i hwa
    rw[if_neg hwa]
    exact hend _ _ hfl
  have hw:=hop i o (by omega) ho y w hI.grown (fun j hj=>hI.facts j (hD j hj)) (fun a' w'=>∃v,a'=a.put o.dst v∧R w w'∧Φ i v w')
  rw[hcan] at hw
  have hlen':((List.range ops.size).filter fun j=>!(jE.setIfInBounds i true).getD j true).length≤fuel:=by
   have:((List.range ops.size).filter fun j=>!(jE.setIfInBounds i true).getD j true).length < ((List.range ops.size).filter fun j=>!jE.getD j true).length:=by
    refine yS _ i (fun j hj=>?_) (List.mem_range.2 hilt) (by rw[hun];rfl) ?_
    ·by_cases hij:i=j
     ·subst hij
      have h2:i < jE.size:=by rw[hI.size];exact hilt
      simp[h2] at hj
     ·rw[getD_set_ne true hij] at hj;exact hj
    ·have h2:i < jE.size:=by rw[hI.size];exact hilt
     simp[h2]
   omega
  have hnext:∀v w',R w w'→Φ i v w'→wpAny P .any ops Q fuel (jE.setIfInBounds i true) (a.put o.dst v) w':=by
   intro v w' hr hφ
   have h2:i < jE.size:=by rw[hI.size];exact hilt
   refine ih _ _ _ (fun k=>if k=i then v else y k) hlen' ⟨by simp[hI.size],?_,hRt hI.grown hr,?_,?_,?_⟩ ?_ ?_
   ·cases hd:o.dst with
    | none=>
     rw[hI.act]
     show jD y (kF ops) a0=_
     refine zN _ _ _ _ fun p hp=>?_
     have:=mem_pairsOf.1 (show (p.1,p.2)∈kF ops from hp)
     have hne:p.2≠i:=fun he=>by rw[he,ho] at this;simp[hd] at this
     simp[hne]
    | some d=>
     rw[hI.act,yR y i v _ a0 d kZ (mem_pairsOf.2 (by simp[ho,hd]))]
   ·intro j hj
    by_cases hji:j=i
    ·subst hji;simpa using hφ
    ·simp only[hji,if_false]
     rw[getD_set_ne false (Ne.symm hji)] at hj
     exact hst j _ _ _ hr (hI.facts j hj)
   ·intro j d hj hdst
    have hji:j≠i:=fun he=>by subst he;simp[h2] at hj
    simp only[hji,if_false]
    rw[getD_set_ne true (Ne.symm hji)] at hj
    exact hI.open_ j d hj hdst
   ·intro j hj k hk
    by_cases hji:j=i
    ·subst hji;exact getD_set_true (hD k hk)
    ·rw[getD_set_ne false (Ne.symm hji)] at hj
     exact getD_set_true (hI.closed j hj k hk)
   ·intro j oj hoj hj e he hb
    by_cases hji:j=i
    ·subst hji
     rw[ho] at hoj;cases hoj
     exact getD_set_true (hedges e he hb)
    ·rw[getD_set_ne false (Ne.symm hji)] at hj
     exact getD_set_true (hE j oj hoj hj e he hb)
   ·rw[getD_set_ne true hlast];exact hL
  unfold wpOp
  simp only[ho]
  have hw2:=hw (fun v w' hr hφ=>⟨v,rfl,hr,hφ⟩)
  split at hw2
  ·rename_i hwa
   rw[if_pos hwa]
   refine .inl ?_
   have h3:o.wp P a w (wpAny P .any ops Q fuel (jE.setIfInBounds i true)) (fun _ _ _=>False):=
    Oper.wp_mono (fun a' w' ⟨v,he,hr,hφ⟩=>by subst he;exact hnext v w' hr hφ) hw2
   exact wp_exit h3
  ·rename_i hwa
   rw[if_neg hwa]
   obtain⟨v,he,hr,hφ⟩:=hw2
   rw[he]
   exact hnext v w hr hφ
where
 wp_exit {o:Oper} {a:Act} {w:World} {K:Act→World→Prop} {Q:Exit→Act→World→Prop} (h:o.wp P a w K (fun _ _ _=>False)):o.wp P a w K Q:=by
  unfold Oper.wp at *
  generalize (execOp a.eval o).run P w=r at *
  cases r with
  | ok n w'=>
   cases n<;>simp only[Oper.upon] at h⊢
   case enter f args=>
    refine Calls.mono h fun e w'' he=>?_
    cases e with
    | returned v=>exact he
    | panicked c=>exact he.elim
    | outgrown=>obtain⟨_,_,hq⟩:=he;exact hq.elim
   all_goals exact h
  | halt x w'=>cases x<;>simp only[Oper.upon] at h
def yK {α:Type} [Inhabited α]:List α→α
 | []=>default
 | [x]=>x
 | _::y::r=>yK (y::r)
theorem JX {α:Type} [Inhabited α]:∀l:List α,yK l=l.getLast?.getD default
 | []=>rfl
 | [x]=>rfl
 | _::y::r=>by rw[yK,JX (y::r),List.getLast?_cons_cons]
theorem qD {id:Nat} {a0:Act} {w0:World} {Q:Exit→Act→World→Prop} (R:World→World→Prop) (D:List (List Nat)) (C:List (List (Nat × Nat))) (Φ:List (Value→World→Prop)) (hm:P.follows .mixedOrders=true)
 (hRt:∀{a b c:World},R a b→R b c→R a c) (hrr:∀w,R w w) (hd:R w0 w0.drew) (hchk:(zS ops D C (kF ops) && aT ops && decide (0 < ops.size))=true) (hst:stL R Φ)
 (kV:Φ.length+1=ops.size)
 (hop:allW P ops R Φ a0 w0 0 ops.toList.dropLast D C)
 (hfin:∀y w,R w0 w→zH y w 0 Φ→∀K:Act→World→Prop,(∀a' w',Q .normal a' w'→K a' w') →
  if Region.wanted (yK ops.toList) (yielded ops (jD y (yK C) a0).tmps) then (yK ops.toList).wp P (jD y (yK C) a0) w K (fun _ _ _=>False) else K ((jD y (yK C) a0).put (yK ops.toList).dst undef) w)
 (hCl:C.length=ops.size):(Code.region id ops true).wp P Q a0 w0:=by
 simp only[Bool.and_eq_true,decide_eq_true_eq] at hchk
 obtain⟨⟨hchk,hsink⟩,hpos⟩:=hchk
 simp only[zS,Bool.and_eq_true,decide_eq_true_eq,List.all_eq_true,List.mem_range] at hchk
 obtain⟨⟨h1,h2⟩,h3⟩:=hchk
 refine wp_region_any hm ?_
 have hwords:=K1 (P:=P) (R:=R) (Φ:=Φ) (a0:=a0) (w0:=w0) D C h3
 refine KO (R:=R) (D:=D.toArray) (Φ:=fun j=>Φ.getD j (fun _ _=>True)) (a0:=a0) (w0:=w0) hRt h1 ?_ hrr (fun i o hi ho=>?_) hpos hsink ?_ ops.size _ a0 _ (fun j=>match (ops[j]?).bind (·.dst) with | some d=>a0.tmps.getD d undef | none=>undef) ?_ ⟨by simp,?_,hd,?_,?_,?_⟩ ?_ ?_
 ·intro j v w w' hr hφ
  rcases Nat.lt_or_ge j Φ.length with hj|hj
  ·have e:Φ.getD j (fun _ _=>True)=Φ[j]:=by simp[List.getD_eq_getElem?_getD,hj]
   simp only[e] at hφ⊢
   exact JF Φ hst _ (List.getElem_mem hj) v w w' hr hφ
  ·have e:Φ.getD j (fun _ _=>True)=fun _ _=>True:=by simp[List.getD_eq_getElem?_getD,hj]
   simp only[e]
 ·have hd2:=allW_dropLast D C h3 ops.toList.dropLast 0 D C (by simp) (by simp) (by simp) hop
  have:=yA _ 0 i o hd2 (by rw[List.getElem?_dropLast];simp;exact⟨by omega,ho⟩)
  simpa using this
 ·intro o ho y w hr hf a ha
  subst ha
  have hl:ops.toList.getLast? = some o:=by rw[List.getLast?_eq_getElem?];simpa using ho
  have hc:yK C=kT ops D.toArray (ops.size - 1):=by
   rw[JX,← h3 (ops.size - 1) (by omega),List.getLast?_eq_getElem?,List.getD_eq_getElem?_getD,hCl];rfl
  rw[← hc]
  have ho2:yK ops.toList=o:=by rw[JX,hl];rfl
  rw[← ho2]
  exact hfin y w hr (qO Φ 0 (by simp) (fun j h=>hf j (by omega))) _ (fun _ _ h=>h)
 ·exact Nat.le_trans (List.length_filter_le _ _) (by simp)
 ·symm
  have:∀(L:List (Nat × Nat)),(∀p∈L,(ops[p.2]?).bind (·.dst)=some p.1)→jD (fun j=>match (ops[j]?).bind (·.dst) with | some d=>a0.tmps.getD d undef | none=>undef) L a0=a0:=by
   intro L
   induction L with
   | nil=>intro _;rfl
   | cons p L ih=>
    intro h
    obtain⟨d,j⟩:=p
    have hd:=h (d,j) (by simp)
    simp only at hd
    show jD _ L (a0.put (some d) _)=a0
    simp only[hd]
    rw[zR]
    exact ih (fun p hp=>h p (by simp[hp]))
  exact this _ (fun p hp=>mem_pairsOf.1 hp)
 ·intro j hj
  have h:(Array.replicate ops.size false).getD j false=false:=by
   simp[Array.getD]
  rw[h] at hj;cases hj
 ·intro j d _ hdst
  simp only[hdst]
  exact zR a0 d
 ·intro j hj
  have h:(Array.replicate ops.size false).getD j false=false:=by
   simp[Array.getD]
  rw[h] at hj;cases hj
 ·intro j o _ hj
  have h:(Array.replicate ops.size false).getD j false=false:=by
   simp[Array.getD]
  rw[h] at hj;cases hj
 ·have h2:ops.size - 1 < ops.size:=by omega
  simp[Array.getD,h2]
where
 allW_dropLast {R:World→World→Prop} {Φ:List (Value→World→Prop)} {a0:Act} {w0:World} (D0:List (List Nat)) (C0:List (List (Nat × Nat))) (hC:∀i,i < ops.size→C0.getD i []=kT ops D0.toArray i) :
  ∀(l:List Oper) (i:Nat) (D:List (List Nat)) (C:List (List (Nat × Nat))),i+l.length≤ops.size→(∀k,D[k]? = D0[i+k]?)→(∀k,C[k]? = C0[i+k]?)→allW P ops R Φ a0 w0 i l D C →
   yB (vV P ops R D0.toArray (fun j=>Φ.getD j (fun _ _=>True)) a0 w0) i l:=by
  intro l
  induction l with
  | nil=>intros;trivial
  | cons o r ih=>
   intro i D C hl hD hC' h
   match D,C,h with
   | d::ds,c::cs,h=>
    obtain⟨h1,h2⟩:=h
    refine⟨?_,ih (i+1) ds cs (by simp at hl;omega) (fun k=>?_) (fun k=>?_) h2⟩
    ·have hd:D0.toArray.getD i []=d:=by
      have:=hD 0
      simp at this
      simp[Array.getD_eq_getD_getElem?,← this]
     have hc:kT ops D0.toArray i=c:=by
      rw[← hC i (by simp at hl;omega)]
      have:=hC' 0
      simp at this
      simp[List.getD_eq_getElem?_getD,← this]
     intro y w hR hj K hK
     rw[hd] at hj
     rw[hc] at hK⊢
     exact h1 y w hR (q8 _ hj) K (fun a' v w' he hr hφ=>by subst he;exact hK v w' hr hφ)
    ·have:=hD (k+1)
     simp at this
     rw[this];congr 1;omega
    ·have:=hC' (k+1)
     simp at this
     rw[this];congr 1;omega
end
theorem qS {b:Bool} {p q:Prop} (hb:b=true) (h:p):if b then p else q:=by rw[if_pos hb];exact h
theorem jF {b:Bool} {p q:Prop} (h:p) (hb:b=true:=by rfl):if b then p else q:=qS hb h
theorem K2 {b:Bool} {p q:Prop} (hb:b=false) (h:q):if b then p else q:=by rw[if_neg (by simp[hb])];exact h
section
variable {P:Program} {ops:Array Oper}
def JG (P:Program) (ops:Array Oper) (m:Nat) (I:World→Prop) (T:Nat→World→World→Prop) (R:World→World→Prop) (D:Array (List Nat)) (Φ:Nat→(Nat→Value)→Value→World→Prop) (a0:Act) (w0:World) (i:Nat) (o:Oper):Prop:=
 ∀(y:Nat→Value) (w:World),R w0 w→(i=m→I w)→(∀j∈D.getD i [],Φ j y (y j) w)→∀K:Act→World→Prop,
  (∀v w',T i w w'→Φ i y v w'→K ((jD y (kT ops D i) a0).put o.dst v) w') →
  if Region.wanted o (yielded ops (jD y (kT ops D i) a0).tmps) then o.wp P (jD y (kT ops D i) a0) w K (fun _ _ _=>False) else K ((jD y (kT ops D i) a0).put o.dst undef) w
structure VY (ops:Array Oper) (m:Nat) (I:World→Prop) (R:World→World→Prop) (D:Array (List Nat)) (Φ:Nat→(Nat→Value)→Value→World→Prop) (a0:Act) (w0:World) (jE:Array Bool) (a:Act) (w:World) (y:Nat→Value):Prop where
 size:jE.size=ops.size
 act:a=jD y (kF ops) a0
 grown:R w0 w
 pre:jE.getD m false=false→I w
 facts:∀j,jE.getD j false=true→Φ j y (y j) w
 open_:∀j d,jE.getD j true=false→(ops[j]?).bind (·.dst)=some d→a0.put (some d) (y j)=a0
 closed:∀j,jE.getD j false=true→∀k∈D.getD j [],jE.getD k false=true
theorem KP {m:Nat} {I:World→Prop} {T:Nat→World→World→Prop} {R:World→World→Prop} {D:Array (List Nat)} {Φ:Nat→(Nat→Value)→Value→World→Prop} {a0:Act} {w0:World} {Q:Exit→Act→World→Prop}
 (hRt:∀{a b c:World},R a b→R b c→R a c) (hTR:∀i w w',T i w w'→R w w') (hTr:∀i w,T i w w) (hTI:∀i,i≠m→∀w w',T i w w'→I w→I w') (hcg:∀j y y' v w,(∀k∈D.getD j [],y k=y' k)→Φ j y v w→Φ j y' v w) (hchk:zJ ops D=true) (hst:∀i j,i≠j→∀y v w w',T i w w'→Φ j y v w→Φ j y v w') (hrr:∀w,R w w)
 (hop:∀i o,ops[i]? = some o→JG P ops m I T R D Φ a0 w0 i o)
 (hfin:∀y w,R w0 w→(∀j,j < ops.size→Φ j y (y j) w)→Q .normal (jD y (kF ops) a0) w) :
 ∀(fuel:Nat) (jE:Array Bool) (a:Act) (w:World) (y:Nat→Value),((List.range ops.size).filter fun j=>!jE.getD j true).length≤fuel →
  VY ops m I R D Φ a0 w0 jE a w y→wpAny P .any ops Q fuel jE a w:=by
 simp only[zJ,Bool.and_eq_true,List.all_eq_true,List.mem_range] at hchk
 obtain⟨kZ,kS⟩:=hchk
 -- nothing ready: all has been jE
 have qH:∀(jE:Array Bool),jE.size=ops.size→Region.ready .any ops jE=[]→∀j,j < ops.size→jE.getD j false=true:=by
  intro jE hs zE j
  induction j using Nat.strongRecOn with
  | ind j ih=>
   intro hj
   cases hl:jE.getD j false with
   | true=>rfl
   | false=>
    exfalso
    have hmem:j∈Region.ready .any ops jE:=by
     rw[mem_ready]
     refine⟨by rw[jV (by omega)];exact hl,ops[j],Array.getElem?_eq_getElem hj,fun e he hb=>?_⟩
     have jP:=kS j hj
     rw[Array.getElem?_eq_getElem hj] at jP
     simp only[Bool.and_eq_true,List.all_eq_true,decide_eq_true_eq] at jP
     have hlt:=jP.1 e.on (List.mem_map.2 ⟨e,List.mem_filter.2 ⟨by simpa using he,hb⟩,rfl⟩)
     exact ih e.on hlt (by omega)
    rw[zE] at hmem
    cases hmem
 have hdone:∀(jE:Array Bool) (a:Act) (w:World) (y:Nat→Value),VY ops m I R D Φ a0 w0 jE a w y→Region.ready .any ops jE=[]→Q .normal a w:=by
  intro jE a w y hI zE
  rw[hI.act]
  exact hfin y w hI.grown (fun j hj=>hI.facts j (qH jE hI.size zE j hj))
 intro fuel
 induction fuel with
 | zero=>
  intro jE a w y kV hI
  have zE:Region.ready .any ops jE=[]:=by
   have h0:((List.range ops.size).filter fun j=>!jE.getD j true)=[]:=List.length_eq_zero_iff.1 (by omega)
   refine List.eq_nil_iff_forall_not_mem.2 fun j hj=>?_
   have hj':=mem_ready.1 hj
   have:j∈((List.range ops.size).filter fun j=>!jE.getD j true):=by
    obtain⟨hl,o,ho,_⟩:=hj'
    exact List.mem_filter.2 ⟨List.mem_range.2 (Array.getElem?_eq_some_iff.1 ho).1,by simp[hl]⟩
   rw[h0] at this
   cases this
  exact⟨zE,hdone jE a w y hI zE⟩
 | succ fuel ih=>
  intro jE a w y kV hI
  refine⟨hdone jE a w y hI,fun i hi=>?_⟩
  obtain⟨hun,o,ho,hedges⟩:=mem_ready.1 hi
  have hilt:i < ops.size:=(Array.getElem?_eq_some_iff.1 ho).1
  have hunf:jE.getD i false=false:=by rw[← jV (by rw[hI.size];exact hilt)];exact hun
  have jP:=kS i hilt
  rw[ho] at jP
  simp only[Bool.and_eq_true,List.all_eq_true,decide_eq_true_eq,List.any_eq_true,Bool.or_eq_true,beq_iff_eq,List.contains_iff_mem] at jP
  -- what i qN for has been jE
  have hD:∀k∈D.getD i [],jE.getD k false=true:=by
   intro k hk
   obtain⟨e,he,hek⟩:=jP.2 k hk
   obtain⟨ed,hed,rfl⟩:=List.mem_map.1 he
   obtain⟨hed1,hed2⟩:=List.mem_filter.1 hed
   have hl:=hedges ed (by simpa using hed1) hed2
   rcases hek with rfl|hek
   ·exact hl
   ·exact hI.closed _ hl k hek
  have hcan:jD y (kT ops D i) a0=a:=by
   rw[hI.act]
   refine k3 y _ _ a0 kZ ?_
   rintro ⟨d,j⟩ hq hp
   simp only[Bool.not_eq_false',Bool.or_eq_true,beq_iff_eq] at hp
   have hdst:=mem_pairsOf.1 hq
   refine hI.open_ j d ?_ hdst
   rcases hp with rfl|hw
   ·exact hun
   ·have hjlt:j < jE.size:=by
     rw[hI.size]
     rcases Nat.lt_or_ge j ops.size with h'|h'
     ·exact h'
     ·rw[Array.getElem?_eq_none h'] at hdst;cases hdst
    rw[jV hjlt]
    cases hl:jE.getD j false with
    | false=>rfl
    | true=>
     have:=hI.closed j hl i (by simpa [qN] using hw)
     rw[hunf] at this
     cases this
  have hw:=hop i o ho y w hI.grown (fun e=>hI.pre (by rw[← e];exact hunf)) (fun j hj=>hI.facts j (hD j hj)) (fun a' w'=>∃v,a'=a.put o.dst v∧T i w w'∧Φ i y v w')
  rw[hcan] at hw
  have hlen':((List.range ops.size).filter fun j=>!(jE.setIfInBounds i true).getD j true).length≤fuel:=by
   have:((List.range ops.size).filter fun j=>!(jE.setIfInBounds i true).getD j true).length < ((List.range ops.size).filter fun j=>!jE.getD j true).length:=by
    refine yS _ i (fun j hj=>?_) (List.mem_range.2 hilt) (by rw[hun];rfl) ?_
    ·by_cases hij:i=j
     ·subst hij
      have h2:i < jE.size:=by rw[hI.size];exact hilt
      simp[h2] at hj
     ·rw[getD_set_ne true hij] at hj;exact hj
    ·have h2:i < jE.size:=by rw[hI.size];exact hilt
     simp[h2]
   omega
  have hnext:∀v w',T i w w'→Φ i y v w'→wpAny P .any ops Q fuel (jE.setIfInBounds i true) (a.put o.dst v) w':=by
   intro v w' hr0 hφ
   have hr:R w w':=hTR _ _ _ hr0
   have hag:∀j,jE.getD j false=true∨j=i→∀k∈D.getD j [],y k=(if k=i then v else y k):=by
    intro j hj k hk
    have hkl:jE.getD k false=true:=by
     rcases hj with hj|hj
     ·exact hI.closed j hj k hk
     ·rw[hj] at hk;exact hD k hk
    have hki:k≠i:=fun e=>by rw[e,hunf] at hkl;cases hkl
    rw[if_neg hki]
   have h2:i < jE.size:=by rw[hI.size];exact hilt
   refine ih _ _ _ (fun k=>if k=i then v else y k) hlen' ⟨by simp[hI.size],?_,hRt hI.grown hr,fun hm=>?_,?_,?_,?_⟩
   ·cases hd:o.dst with
    | none=>
     rw[hI.act]
     show jD y (kF ops) a0=_
     refine zN _ _ _ _ fun p hp=>?_
     have:=mem_pairsOf.1 (show (p.1,p.2)∈kF ops from hp)
     have hne:p.2≠i:=fun he=>by rw[he,ho] at this;simp[hd] at this
     simp[hne]
    | some d=>
     rw[hI.act,yR y i v _ a0 d kZ (mem_pairsOf.2 (by simp[ho,hd]))]
   ·by_cases him:i=m
    ·subst him;simp[h2] at hm
    ·rw[getD_set_ne false him] at hm
     exact hTI i him _ _ hr0 (hI.pre hm)
   ·intro j hj
    by_cases hji:j=i
    ·subst hji
     rw[if_pos rfl]
     exact hcg j y _ v w' (hag j (.inr rfl)) hφ
    ·rw[if_neg hji]
     rw[getD_set_ne false (Ne.symm hji)] at hj
     exact hcg j y _ (y j) w' (hag j (.inl hj)) (hst i j (Ne.symm hji) y _ _ _ hr0 (hI.facts j hj))
   ·intro j d hj hdst
    have hji:j≠i:=fun he=>by subst he;simp[h2] at hj
    simp only[hji,if_false]
    rw[getD_set_ne true (Ne.symm hji)] at hj
    exact hI.open_ j d hj hdst
   ·intro j hj k hk
    by_cases hji:j=i
    ·subst hji;exact getD_set_true (hD k hk)
    ·rw[getD_set_ne false (Ne.symm hji)] at hj
     exact getD_set_true (hI.closed j hj k hk)
  unfold wpOp
  simp only[ho]
  have hw2:=hw (fun v w' hr hφ=>⟨v,rfl,hr,hφ⟩)
  split at hw2
  ·rename_i hwa
   rw[if_pos hwa]
   refine .inl ?_
   have h3:o.wp P a w (wpAny P .any ops Q fuel (jE.setIfInBounds i true)) (fun _ _ _=>False):=
    Oper.wp_mono (fun a' w' ⟨v,he,hr,hφ⟩=>by subst he;exact hnext v w' hr hφ) hw2
   exact wp_exit h3
  ·rename_i hwa
   rw[if_neg hwa]
   obtain⟨v,he,hr,hφ⟩:=hw2
   rw[he]
   exact hnext v w hr hφ
where
 wp_exit {o:Oper} {a:Act} {w:World} {K:Act→World→Prop} {Q:Exit→Act→World→Prop} (h:o.wp P a w K (fun _ _ _=>False)):o.wp P a w K Q:=by
  unfold Oper.wp at *
  generalize (execOp a.eval o).run P w=r at *
  cases r with
  | ok n w'=>
   cases n<;>simp only[Oper.upon] at h⊢
   case enter f args=>
    refine Calls.mono h fun e w'' he=>?_
    cases e with
    | returned v=>exact he
    | panicked c=>exact he.elim
    | outgrown=>obtain⟨_,_,hq⟩:=he;exact hq.elim
   all_goals exact h
  | halt x w'=>cases x<;>simp only[Oper.upon] at h
theorem JY {id:Nat} {a0:Act} {w0:World} {Q:Exit→Act→World→Prop} (R:World→World→Prop) (m:Nat) (I:World→Prop) (T:Nat→World→World→Prop) (D:Array (List Nat)) (Φ:Nat→(Nat→Value)→Value→World→Prop) (hm:P.follows .mixedOrders=true)
 (hRt:∀{a b c:World},R a b→R b c→R a c) (hrr:∀w,R w w) (hTR:∀i w w',T i w w'→R w w') (hTr:∀i w,T i w w) (hTI:∀i,i≠m→∀w w',T i w w'→I w→I w') (hcg:∀j y y' v w,(∀k∈D.getD j [],y k=y' k)→Φ j y v w→Φ j y' v w) (hI0:I w0.drew) (hd:R w0 w0.drew) (hchk:zJ ops D=true) (hst:∀i j,i≠j→∀y v w w',T i w w'→Φ j y v w→Φ j y v w')
 (hop:yB (JG P ops m I T R D Φ a0 w0) 0 ops.toList)
 (hfin:∀y w,R w0 w→(∀j,j < ops.size→Φ j y (y j) w)→Q .normal (jD y (kF ops) a0) w):(Code.region id ops true).wp P Q a0 w0:=by
 refine wp_region_any hm ?_
 refine KP (m:=m) (I:=I) (T:=T) (R:=R) (D:=D) (Φ:=Φ) (a0:=a0) (w0:=w0) hRt hTR hTr hTI hcg hchk hst hrr (fun i o ho=>?_) hfin ops.size _ a0 _ (fun j=>match (ops[j]?).bind (·.dst) with | some d=>a0.tmps.getD d undef | none=>undef) ?_ ⟨by simp,?_,hd,fun _=>hI0,?_,?_,?_⟩
 ·have:=yA _ 0 i o hop (by simpa using ho)
  simpa using this
 ·exact Nat.le_trans (List.length_filter_le _ _) (by simp)
 ·symm
  have:∀(L:List (Nat × Nat)),(∀p∈L,(ops[p.2]?).bind (·.dst)=some p.1)→jD (fun j=>match (ops[j]?).bind (·.dst) with | some d=>a0.tmps.getD d undef | none=>undef) L a0=a0:=by
   intro L
   induction L with
   | nil=>intro _;rfl
   | cons p L ih=>
    intro h
    obtain⟨d,j⟩:=p
    have hd:=h (d,j) (by simp)
    simp only at hd
    show jD _ L (a0.put (some d) _)=a0
    simp only[hd]
    rw[zR]
    exact ih (fun p hp=>h p (by simp[hp]))
  exact this _ (fun p hp=>mem_pairsOf.1 hp)
 ·intro j hj
  have h:(Array.replicate ops.size false).getD j false=false:=by
   simp[Array.getD]
  rw[h] at hj;cases hj
 ·intro j d _ hdst
  simp only[hdst]
  exact zR a0 d
 ·intro j hj
  have h:(Array.replicate ops.size false).getD j false=false:=by
   simp[Array.getD]
  rw[h] at hj;cases hj
def zB (Φ:List ((Nat→Value)→Value→World→Prop)) (y:Nat→Value) (w:World):List Nat→Prop
 | []=>True
 | j::r=>Φ.getD j (fun _ _ _=>True) y (y j) w∧zB Φ y w r
theorem YW {Φ:List ((Nat→Value)→Value→World→Prop)} {y:Nat→Value} {w:World}:∀(d:List Nat),(∀j∈d,Φ.getD j (fun _ _ _=>True) y (y j) w)→zB Φ y w d
 | [],_=>trivial
 | j::r,h=>⟨h j (by simp),YW r (fun k hk=>h k (by simp[hk]))⟩
def qT (y:Nat→Value) (w:World):Nat→List ((Nat→Value)→Value→World→Prop)→Prop
 | _,[]=>True
 | i,φ::r=>φ y (y i) w∧qT y w (i+1) r
theorem JZ {Φ0:List ((Nat→Value)→Value→World→Prop)} {y:Nat→Value} {w:World}:∀(Φ:List ((Nat→Value)→Value→World→Prop)) (i:Nat),(∀k,Φ[k]? = Φ0[i+k]?)→(∀j,j < i+Φ.length→Φ0.getD j (fun _ _ _=>True) y (y j) w)→qT y w i Φ
 | [],_,_,_=>trivial
 | φ::r,i,h,hj=>by
  refine⟨?_,JZ r (i+1) (fun k=>?_) (fun j hj'=>hj j (by simp;omega))⟩
  ·have h0:=hj i (by simp)
   have:=h 0
   simp at this
   simpa [List.getD_eq_getElem?_getD,← this] using h0
  ·have:=h (k+1)
   simp at this
   rw[this];congr 1;omega
def wordT (P:Program) (ops:Array Oper) (m:Nat) (I:World→Prop) (T:Nat→World→World→Prop) (R:World→World→Prop) (Φ:List ((Nat→Value)→Value→World→Prop)) (a0:Act) (w0:World) (i:Nat) (o:Oper) (d:List Nat) (c:List (Nat × Nat)):Prop:=
 ∀(y:Nat→Value) (w:World),R w0 w→(i=m→I w)→zB Φ y w d→∀K:Act→World→Prop,
  (∀a' v w',a'=(jD y c a0).put o.dst v→T i w w'→Φ.getD i (fun _ _ _=>True) y v w'→K a' w') →
  if Region.wanted o (yielded ops (jD y c a0).tmps) then o.wp P (jD y c a0) w K (fun _ _ _=>False) else K ((jD y c a0).put o.dst undef) w
def VM (P:Program) (ops:Array Oper) (m:Nat) (I:World→Prop) (T:Nat→World→World→Prop) (R:World→World→Prop) (Φ:List ((Nat→Value)→Value→World→Prop)) (a0:Act) (w0:World):Nat→List Oper→List (List Nat)→List (List (Nat × Nat))→Prop
 | _,[],_,_=>True
 | i,o::r,d::ds,c::cs=>wordT P ops m I T R Φ a0 w0 i o d c∧VM P ops m I T R Φ a0 w0 (i+1) r ds cs
 | _,_::_,_,_=>False
theorem KF {m:Nat} {I:World→Prop} {T:Nat→World→World→Prop} {R:World→World→Prop} {Φ:List ((Nat→Value)→Value→World→Prop)} {a0:Act} {w0:World} (D0:List (List Nat)) (C0:List (List (Nat × Nat))) (hC:∀i,i < ops.size→C0.getD i []=kT ops D0.toArray i) :
 ∀(l:List Oper) (i:Nat) (D:List (List Nat)) (C:List (List (Nat × Nat))),i+l.length=ops.size→(∀k,D[k]? = D0[i+k]?)→(∀k,C[k]? = C0[i+k]?)→VM P ops m I T R Φ a0 w0 i l D C →
  yB (JG P ops m I T R D0.toArray (fun j=>Φ.getD j (fun _ _ _=>True)) a0 w0) i l:=by
 intro l
 induction l with
 | nil=>intros;trivial
 | cons o r ih=>
  intro i D C hl hD hC' h
  match D,C,h with
  | d::ds,c::cs,h=>
   obtain⟨h1,h2⟩:=h
   refine⟨?_,ih (i+1) ds cs (by simp at hl;omega) (fun k=>?_) (fun k=>?_) h2⟩
   ·have hd:D0.toArray.getD i []=d:=by
     have:=hD 0
     simp at this
     simp[Array.getD_eq_getD_getElem?,← this]
    have hc:kT ops D0.toArray i=c:=by
     rw[← hC i (by simp at hl;omega)]
     have:=hC' 0
     simp at this
     simp[List.getD_eq_getElem?_getD,← this]
    intro y w hR hi hj K hK
    rw[hd] at hj
    rw[hc] at hK⊢
    exact h1 y w hR hi (YW _ hj) K (fun a' v w' he hr hφ=>by subst he;exact hK v w' hr hφ)
   ·have:=hD (k+1)
    simp at this
    rw[this];congr 1;omega
   ·have:=hC' (k+1)
    simp at this
    rw[this];congr 1;omega
def stLT (T:Nat→World→World→Prop):Nat→List ((Nat→Value)→Value→World→Prop)→Prop
 | _,[]=>True
 | j,φ::r=>(∀i,i≠j→∀y v w w',T i w w'→φ y v w→φ y v w')∧stLT T (j+1) r
theorem YX {T:Nat→World→World→Prop}:∀(Φ:List ((Nat→Value)→Value→World→Prop)) (j:Nat),stLT T j Φ→∀k φ,Φ[k]? = some φ→∀i,i≠j+k→∀y v w w',T i w w'→φ y v w→φ y v w'
 | φ::r,j,h,0,ψ,hk=>by
  simp at hk
  subst hk
  exact h.1
 | φ::r,j,h,k+1,ψ,hk=>by
  intro i hi y v w w' hr
  exact YX r (j+1) h.2 k ψ (by simpa using hk) i (by omega) y v w w' hr
def cgLT (D:List (List Nat)):Nat→List ((Nat→Value)→Value→World→Prop)→Prop
 | _,[]=>True
 | j,φ::r=>(∀y y' v w,(∀k∈D.getD j [],y k=y' k)→φ y v w→φ y' v w)∧cgLT D (j+1) r
theorem K3 {D:List (List Nat)}:∀(Φ:List ((Nat→Value)→Value→World→Prop)) (j:Nat),cgLT D j Φ→∀k φ,Φ[k]? = some φ→∀y y' v w,(∀q∈D.getD (j+k) [],y q=y' q)→φ y v w→φ y' v w
 | φ::r,j,h,0,ψ,hk=>by
  simp at hk
  subst hk
  exact h.1
 | φ::r,j,h,k+1,ψ,hk=>by
  intro y y' v w hq
  exact K3 r (j+1) h.2 k ψ (by simpa using hk) y y' v w (by rw[show j+1+k=j+(k+1) by omega];exact hq)
theorem qI {id:Nat} {a0:Act} {w0:World} {Q:Exit→Act→World→Prop} (R:World→World→Prop) (m:Nat) (I:World→Prop) (T:Nat→World→World→Prop) (D:List (List Nat)) (C:List (List (Nat × Nat))) (F:List (Nat × Nat)) (Φ:List ((Nat→Value)→Value→World→Prop)) (hm:P.follows .mixedOrders=true)
 (hRt:∀{a b c:World},R a b→R b c→R a c) (hrr:∀w,R w w) (hTR:∀i w w',T i w w'→R w w') (hTr:∀i w,T i w w) (hTI:∀i,i≠m→∀w w',T i w w'→I w→I w') (hI0:I w0.drew) (hd:R w0 w0.drew) (hchk:zS ops D C F=true) (hst:stLT T 0 Φ) (hcg:cgLT D 0 Φ)
 (hop:VM P ops m I T R Φ a0 w0 0 ops.toList D C)
 (kV:Φ.length=ops.size)
 (hfin:∀y w,R w0 w→qT y w 0 Φ→Q .normal (jD y F a0) w):(Code.region id ops true).wp P Q a0 w0:=by
 simp only[zS,Bool.and_eq_true,decide_eq_true_eq,List.all_eq_true,List.mem_range] at hchk
 obtain⟨⟨h1,h2⟩,h3⟩:=hchk
 subst h2
 refine JY R m I T D.toArray (fun j=>Φ.getD j (fun _ _ _=>True)) hm hRt hrr hTR hTr hTI ?_ hI0 hd h1 ?_ (KF D C h3 ops.toList 0 D C (by simp) (by simp) (by simp) hop) (fun y w hr hj=>hfin y w hr (JZ Φ 0 (by simp) (fun j h=>hj j (by rw[← kV];simpa using h))))
 ·intro j y y' v w hk hφ
  rcases Nat.lt_or_ge j Φ.length with hj|hj
  ·have e:Φ.getD j (fun _ _ _=>True)=Φ[j]:=by simp[List.getD_eq_getElem?_getD,hj]
   rw[e] at hφ⊢
   refine K3 Φ 0 hcg j _ (List.getElem?_eq_getElem hj) y y' v w ?_ hφ
   intro q hq
   refine hk q ?_
   rw[Nat.zero_add] at hq
   simpa [Array.getD_eq_getD_getElem?,List.getD_eq_getElem?_getD] using hq
  ·have e:Φ.getD j (fun _ _ _=>True)=fun _ _ _=>True:=by simp[List.getD_eq_getElem?_getD,hj]
   rw[e];trivial
 ·intro i j hij y v w w' hr hφ
  rcases Nat.lt_or_ge j Φ.length with hj|hj
  ·have e:Φ.getD j (fun _ _ _=>True)=Φ[j]:=by simp[List.getD_eq_getElem?_getD,hj]
   rw[e] at hφ⊢
   exact YX Φ 0 hst j _ (List.getElem?_eq_getElem hj) i (by rw[Nat.zero_add];exact hij) y v w w' hr hφ
  ·have e:Φ.getD j (fun _ _ _=>True)=fun _ _ _=>True:=by simp[List.getD_eq_getElem?_getD,hj]
   rw[e];trivial
end
section
variable {P:Program} {ops:Array Oper}
end
section
variable {P:Program} {ops:Array Oper}
theorem KQ {m:Nat} {I:World→Prop} {T:Nat→World→World→Prop} {R:World→World→Prop} {D:Array (List Nat)} {Φ:Nat→(Nat→Value)→Value→World→Prop} {a0:Act} {w0:World} {Q:Exit→Act→World→Prop}
 (hRt:∀{a b c:World},R a b→R b c→R a c) (hTR:∀i w w',T i w w'→R w w') (hTr:∀i w,T i w w) (hTI:∀i,i≠m→∀w w',T i w w'→I w→I w') (hcg:∀j y y' v w,(∀k∈D.getD j [],y k=y' k)→Φ j y v w→Φ j y' v w) (hchk:zJ ops D=true) (hst:∀i j,i≠j→i∉D.getD j []→∀y v w w',T i w w'→Φ j y v w→Φ j y v w') (hrr:∀w,R w w)
 (hop:∀i o,ops[i]? = some o→JG P ops m I T R D Φ a0 w0 i o)
 (hfin:∀y w,R w0 w→(∀j,j < ops.size→Φ j y (y j) w)→Q .normal (jD y (kF ops) a0) w) :
 ∀(fuel:Nat) (jE:Array Bool) (a:Act) (w:World) (y:Nat→Value),((List.range ops.size).filter fun j=>!jE.getD j true).length≤fuel →
  VY ops m I R D Φ a0 w0 jE a w y→wpAny P .any ops Q fuel jE a w:=by
 simp only[zJ,Bool.and_eq_true,List.all_eq_true,List.mem_range] at hchk
 obtain⟨kZ,kS⟩:=hchk
 -- nothing ready: all has been jE
 have qH:∀(jE:Array Bool),jE.size=ops.size→Region.ready .any ops jE=[]→∀j,j < ops.size→jE.getD j false=true:=by
  intro jE hs zE j
  induction j using Nat.strongRecOn with
  | ind j ih=>
   intro hj
   cases hl:jE.getD j false with
   | true=>rfl
   | false=>
    exfalso
    have hmem:j∈Region.ready .any ops jE:=by
     rw[mem_ready]
     refine⟨by rw[jV (by omega)];exact hl,ops[j],Array.getElem?_eq_getElem hj,fun e he hb=>?_⟩
     have jP:=kS j hj
     rw[Array.getElem?_eq_getElem hj] at jP
     simp only[Bool.and_eq_true,List.all_eq_true,decide_eq_true_eq] at jP
     have hlt:=jP.1 e.on (List.mem_map.2 ⟨e,List.mem_filter.2 ⟨by simpa using he,hb⟩,rfl⟩)
     exact ih e.on hlt (by omega)
    rw[zE] at hmem
    cases hmem
 have hdone:∀(jE:Array Bool) (a:Act) (w:World) (y:Nat→Value),VY ops m I R D Φ a0 w0 jE a w y→Region.ready .any ops jE=[]→Q .normal a w:=by
  intro jE a w y hI zE
  rw[hI.act]
  exact hfin y w hI.grown (fun j hj=>hI.facts j (qH jE hI.size zE j hj))
 intro fuel
 induction fuel with
 | zero=>
  intro jE a w y kV hI
  have zE:Region.ready .any ops jE=[]:=by
   have h0:((List.range ops.size).filter fun j=>!jE.getD j true)=[]:=List.length_eq_zero_iff.1 (by omega)
   refine List.eq_nil_iff_forall_not_mem.2 fun j hj=>?_
   have hj':=mem_ready.1 hj
   have:j∈((List.range ops.size).filter fun j=>!jE.getD j true):=by
    obtain⟨hl,o,ho,_⟩:=hj'
    exact List.mem_filter.2 ⟨List.mem_range.2 (Array.getElem?_eq_some_iff.1 ho).1,by simp[hl]⟩
   rw[h0] at this
   cases this
  exact⟨zE,hdone jE a w y hI zE⟩
 | succ fuel ih=>
  intro jE a w y kV hI
  refine⟨hdone jE a w y hI,fun i hi=>?_⟩
  obtain⟨hun,o,ho,hedges⟩:=mem_ready.1 hi
  have hilt:i < ops.size:=(Array.getElem?_eq_some_iff.1 ho).1
  have hunf:jE.getD i false=false:=by rw[← jV (by rw[hI.size];exact hilt)];exact hun
  have jP:=kS i hilt
  rw[ho] at jP
  simp only[Bool.and_eq_true,List.all_eq_true,decide_eq_true_eq,List.any_eq_true,Bool.or_eq_true,beq_iff_eq,List.contains_iff_mem] at jP
  -- what i qN for has been jE
  have hD:∀k∈D.getD i [],jE.getD k false=true:=by
   intro k hk
   obtain⟨e,he,hek⟩:=jP.2 k hk
   obtain⟨ed,hed,rfl⟩:=List.mem_map.1 he
   obtain⟨hed1,hed2⟩:=List.mem_filter.1 hed
   have hl:=hedges ed (by simpa using hed1) hed2
   rcases hek with rfl|hek
   ·exact hl
   ·exact hI.closed _ hl k hek
  have hcan:jD y (kT ops D i) a0=a:=by
   rw[hI.act]
   refine k3 y _ _ a0 kZ ?_
   rintro ⟨d,j⟩ hq hp
   simp only[Bool.not_eq_false',Bool.or_eq_true,beq_iff_eq] at hp
   have hdst:=mem_pairsOf.1 hq
   refine hI.open_ j d ?_ hdst
   rcases hp with rfl|hw
   ·exact hun
   ·have hjlt:j < jE.size:=by
     rw[hI.size]
     rcases Nat.lt_or_ge j ops.size with h'|h'
     ·exact h'
     ·rw[Array.getElem?_eq_none h'] at hdst;cases hdst
    rw[jV hjlt]
    cases hl:jE.getD j false with
    | false=>rfl
    | true=>
     have:=hI.closed j hl i (by simpa [qN] using hw)
     rw[hunf] at this
     cases this
  have hw:=hop i o ho y w hI.grown (fun e=>hI.pre (by rw[← e];exact hunf)) (fun j hj=>hI.facts j (hD j hj)) (fun a' w'=>∃v,a'=a.put o.dst v∧T i w w'∧Φ i y v w')
  rw[hcan] at hw
  have hlen':((List.range ops.size).filter fun j=>!(jE.setIfInBounds i true).getD j true).length≤fuel:=by
   have:((List.range ops.size).filter fun j=>!(jE.setIfInBounds i true).getD j true).length < ((List.range ops.size).filter fun j=>!jE.getD j true).length:=by
    refine yS _ i (fun j hj=>?_) (List.mem_range.2 hilt) (by rw[hun];rfl) ?_
    ·by_cases hij:i=j
     ·subst hij
      have h2:i < jE.size:=by rw[hI.size];exact hilt
      simp[h2] at hj
     ·rw[getD_set_ne true hij] at hj;exact hj
    ·have h2:i < jE.size:=by rw[hI.size];exact hilt
     simp[h2]
   omega
  have hnext:∀v w',T i w w'→Φ i y v w'→wpAny P .any ops Q fuel (jE.setIfInBounds i true) (a.put o.dst v) w':=by
   intro v w' hr0 hφ
   have hr:R w w':=hTR _ _ _ hr0
   have hag:∀j,jE.getD j false=true∨j=i→∀k∈D.getD j [],y k=(if k=i then v else y k):=by
    intro j hj k hk
    have hkl:jE.getD k false=true:=by
     rcases hj with hj|hj
     ·exact hI.closed j hj k hk
     ·rw[hj] at hk;exact hD k hk
    have hki:k≠i:=fun e=>by rw[e,hunf] at hkl;cases hkl
    rw[if_neg hki]
   have h2:i < jE.size:=by rw[hI.size];exact hilt
   refine ih _ _ _ (fun k=>if k=i then v else y k) hlen' ⟨by simp[hI.size],?_,hRt hI.grown hr,fun hm=>?_,?_,?_,?_⟩
   ·cases hd:o.dst with
    | none=>
     rw[hI.act]
     show jD y (kF ops) a0=_
     refine zN _ _ _ _ fun p hp=>?_
     have:=mem_pairsOf.1 (show (p.1,p.2)∈kF ops from hp)
     have hne:p.2≠i:=fun he=>by rw[he,ho] at this;simp[hd] at this
     simp[hne]
    | some d=>
     rw[hI.act,yR y i v _ a0 d kZ (mem_pairsOf.2 (by simp[ho,hd]))]
   ·by_cases him:i=m
    ·subst him;simp[h2] at hm
    ·rw[getD_set_ne false him] at hm
     exact hTI i him _ _ hr0 (hI.pre hm)
   ·intro j hj
    by_cases hji:j=i
    ·subst hji
     rw[if_pos rfl]
     exact hcg j y _ v w' (hag j (.inr rfl)) hφ
    ·rw[if_neg hji]
     rw[getD_set_ne false (Ne.symm hji)] at hj
     exact hcg j y _ (y j) w' (hag j (.inl hj)) (hst i j (Ne.symm hji) (fun hm=>by have:=hI.closed j hj i hm;rw[hunf] at this;cases this) y _ _ _ hr0 (hI.facts j hj))
   ·intro j d hj hdst
    have hji:j≠i:=fun he=>by subst he;simp[h2] at hj
    simp only[hji,if_false]
    rw[getD_set_ne true (Ne.symm hji)] at hj
    exact hI.open_ j d hj hdst
   ·intro j hj k hk
    by_cases hji:j=i
    ·subst hji;exact getD_set_true (hD k hk)
    ·rw[getD_set_ne false (Ne.symm hji)] at hj
     exact getD_set_true (hI.closed j hj k hk)
  unfold wpOp
  simp only[ho]
  have hw2:=hw (fun v w' hr hφ=>⟨v,rfl,hr,hφ⟩)
  split at hw2
  ·rename_i hwa
   rw[if_pos hwa]
   refine .inl ?_
   have h3:o.wp P a w (wpAny P .any ops Q fuel (jE.setIfInBounds i true)) (fun _ _ _=>False):=
    Oper.wp_mono (fun a' w' ⟨v,he,hr,hφ⟩=>by subst he;exact hnext v w' hr hφ) hw2
   exact wp_exit h3
  ·rename_i hwa
   rw[if_neg hwa]
   obtain⟨v,he,hr,hφ⟩:=hw2
   rw[he]
   exact hnext v w hr hφ
where
 wp_exit {o:Oper} {a:Act} {w:World} {K:Act→World→Prop} {Q:Exit→Act→World→Prop} (h:o.wp P a w K (fun _ _ _=>False)):o.wp P a w K Q:=by
  unfold Oper.wp at *
  generalize (execOp a.eval o).run P w=r at *
  cases r with
  | ok n w'=>
   cases n<;>simp only[Oper.upon] at h⊢
   case enter f args=>
    refine Calls.mono h fun e w'' he=>?_
    cases e with
    | returned v=>exact he
    | panicked c=>exact he.elim
    | outgrown=>obtain⟨_,_,hq⟩:=he;exact hq.elim
   all_goals exact h
  | halt x w'=>cases x<;>simp only[Oper.upon] at h
theorem J0 {id:Nat} {a0:Act} {w0:World} {Q:Exit→Act→World→Prop} (R:World→World→Prop) (m:Nat) (I:World→Prop) (T:Nat→World→World→Prop) (D:Array (List Nat)) (Φ:Nat→(Nat→Value)→Value→World→Prop) (hm:P.follows .mixedOrders=true)
 (hRt:∀{a b c:World},R a b→R b c→R a c) (hrr:∀w,R w w) (hTR:∀i w w',T i w w'→R w w') (hTr:∀i w,T i w w) (hTI:∀i,i≠m→∀w w',T i w w'→I w→I w') (hcg:∀j y y' v w,(∀k∈D.getD j [],y k=y' k)→Φ j y v w→Φ j y' v w) (hI0:I w0.drew) (hd:R w0 w0.drew) (hchk:zJ ops D=true) (hst:∀i j,i≠j→i∉D.getD j []→∀y v w w',T i w w'→Φ j y v w→Φ j y v w')
 (hop:yB (JG P ops m I T R D Φ a0 w0) 0 ops.toList)
 (hfin:∀y w,R w0 w→(∀j,j < ops.size→Φ j y (y j) w)→Q .normal (jD y (kF ops) a0) w):(Code.region id ops true).wp P Q a0 w0:=by
 refine wp_region_any hm ?_
 refine KQ (m:=m) (I:=I) (T:=T) (R:=R) (D:=D) (Φ:=Φ) (a0:=a0) (w0:=w0) hRt hTR hTr hTI hcg hchk hst hrr (fun i o ho=>?_) hfin ops.size _ a0 _ (fun j=>match (ops[j]?).bind (·.dst) with | some d=>a0.tmps.getD d undef | none=>undef) ?_ ⟨by simp,?_,hd,fun _=>hI0,?_,?_,?_⟩
 ·have:=yA _ 0 i o hop (by simpa using ho)
  simpa using this
 ·exact Nat.le_trans (List.length_filter_le _ _) (by simp)
 ·symm
  have:∀(L:List (Nat × Nat)),(∀p∈L,(ops[p.2]?).bind (·.dst)=some p.1)→jD (fun j=>match (ops[j]?).bind (·.dst) with | some d=>a0.tmps.getD d undef | none=>undef) L a0=a0:=by
   intro L
   induction L with
   | nil=>intro _;rfl
   | cons p L ih=>
    intro h
    obtain⟨d,j⟩:=p
    have hd:=h (d,j) (by simp)
    simp only at hd
    show jD _ L (a0.put (some d) _)=a0
    simp only[hd]
    rw[zR]
    exact ih (fun p hp=>h p (by simp[hp]))
  exact this _ (fun p hp=>mem_pairsOf.1 hp)
 ·intro j hj
  have h:(Array.replicate ops.size false).getD j false=false:=by
   simp[Array.getD]
  rw[h] at hj;cases hj
 ·intro j d _ hdst
  simp only[hdst]
  exact zR a0 d
 ·intro j hj
  have h:(Array.replicate ops.size false).getD j false=false:=by
   simp[Array.getD]
  rw[h] at hj;cases hj
def stLD (D:List (List Nat)) (T:Nat→World→World→Prop):Nat→List ((Nat→Value)→Value→World→Prop)→Prop
 | _,[]=>True
 | j,φ::r=>(∀i,i≠j→(D.getD j []).contains i=false→∀y v w w',T i w w'→φ y v w→φ y v w')∧stLD D T (j+1) r
theorem YY {D:List (List Nat)} {T:Nat→World→World→Prop}:∀(Φ:List ((Nat→Value)→Value→World→Prop)) (j:Nat),stLD D T j Φ→∀k φ,Φ[k]? = some φ→∀i,i≠j+k→(D.getD (j+k) []).contains i=false→∀y v w w',T i w w'→φ y v w→φ y v w'
 | φ::r,j,h,0,ψ,hk=>by
  simp at hk
  subst hk
  exact h.1
 | φ::r,j,h,k+1,ψ,hk=>by
  intro i hi hd y v w w' hr
  exact YY r (j+1) h.2 k ψ (by simpa using hk) i (by omega) (by rw[show j+1+k=j+(k+1) by omega];exact hd) y v w w' hr
theorem yL {id:Nat} {a0:Act} {w0:World} {Q:Exit→Act→World→Prop} (R:World→World→Prop) (m:Nat) (I:World→Prop) (T:Nat→World→World→Prop) (D:List (List Nat)) (C:List (List (Nat × Nat))) (F:List (Nat × Nat)) (Φ:List ((Nat→Value)→Value→World→Prop)) (hm:P.follows .mixedOrders=true)
 (hRt:∀{a b c:World},R a b→R b c→R a c) (hrr:∀w,R w w) (hTR:∀i w w',T i w w'→R w w') (hTr:∀i w,T i w w) (hTI:∀i,i≠m→∀w w',T i w w'→I w→I w') (hI0:I w0.drew) (hd:R w0 w0.drew) (hchk:zS ops D C F=true) (hst:stLD D T 0 Φ) (hcg:cgLT D 0 Φ)
 (hop:VM P ops m I T R Φ a0 w0 0 ops.toList D C)
 (kV:Φ.length=ops.size)
 (hfin:∀y w,R w0 w→qT y w 0 Φ→Q .normal (jD y F a0) w):(Code.region id ops true).wp P Q a0 w0:=by
 simp only[zS,Bool.and_eq_true,decide_eq_true_eq,List.all_eq_true,List.mem_range] at hchk
 obtain⟨⟨h1,h2⟩,h3⟩:=hchk
 subst h2
 refine J0 R m I T D.toArray (fun j=>Φ.getD j (fun _ _ _=>True)) hm hRt hrr hTR hTr hTI ?_ hI0 hd h1 ?_ (KF D C h3 ops.toList 0 D C (by simp) (by simp) (by simp) hop) (fun y w hr hj=>hfin y w hr (JZ Φ 0 (by simp) (fun j h=>hj j (by rw[← kV];simpa using h))))
 ·intro j y y' v w hk hφ
  rcases Nat.lt_or_ge j Φ.length with hj|hj
  ·have e:Φ.getD j (fun _ _ _=>True)=Φ[j]:=by simp[List.getD_eq_getElem?_getD,hj]
   rw[e] at hφ⊢
   refine K3 Φ 0 hcg j _ (List.getElem?_eq_getElem hj) y y' v w ?_ hφ
   intro q hq
   refine hk q ?_
   rw[Nat.zero_add] at hq
   simpa [Array.getD_eq_getD_getElem?,List.getD_eq_getElem?_getD] using hq
  ·have e:Φ.getD j (fun _ _ _=>True)=fun _ _ _=>True:=by simp[List.getD_eq_getElem?_getD,hj]
   rw[e];trivial
 ·intro i j hij hnd y v w w' hr hφ
  rcases Nat.lt_or_ge j Φ.length with hj|hj
  ·have e:Φ.getD j (fun _ _ _=>True)=Φ[j]:=by simp[List.getD_eq_getElem?_getD,hj]
   rw[e] at hφ⊢
   refine YY Φ 0 hst j _ (List.getElem?_eq_getElem hj) i (by rw[Nat.zero_add];exact hij) ?_ y v w w' hr hφ
   rw[Nat.zero_add]
   cases hc:(D.getD j []).contains i with
   | false=>rfl
   | true=>
    refine absurd ?_ hnd
    have:i∈D.getD j []:=by simpa using hc
    simpa [Array.getD_eq_getD_getElem?,List.getD_eq_getElem?_getD] using this
  ·have e:Φ.getD j (fun _ _ _=>True)=fun _ _ _=>True:=by simp[List.getD_eq_getElem?_getD,hj]
   rw[e];trivial
end
end Go.Proofs.Ytfbeepkogcmlmaa
