/-
  Texts of the proof.
-/
import Derived.Test.YtjnpcddbgfmpcaaGreatDoorBMapsP00
import Derived.Orders
import Derived.Below
import Derived.KernelRfl
set_option linter.unusedVariables false
set_option linter.unusedSimpArgs false
namespace Go.Proofs.YtjnpcddbgfmpcaaGreatDoor
open Go Go.RowKit
/-! ### growth of the world -/
def jA (w w':World):Prop:=Below w.heap.size w w'
theorem jA.refl (w:World):jA w w:=Below.refl _ _
theorem jA.trans {a b c:World} (h:jA a b) (k:jA b c):jA a c:=Below.trans h (Below.mono k (Below.size h))
theorem jA.size {a b:World} (h:jA a b):a.heap.size≤b.heap.size:=Below.size h
theorem jA.drew {a w:World} (h:jA a w):jA a w.drew:=Below.drew h
theorem jA.alloc {a w:World} (h:jA a w) (o:Obj):jA a (w.alloc o):=Below.alloc h (Below.size h) o
theorem jA.setCell {a w:World} (h:jA a w) {p:Addr} (hp:a.heap.size≤p.block) (u:Value):jA a (w.setCell p u):=Below.setCell h hp u
theorem jA.heap {w w':World} (h:jA w w') {k:Nat} {o:Obj} (hk:w.heap[k]? = some o):w'.heap[k]? = some o:=
 (Below.block h k (Array.getElem?_eq_some_iff.1 hk).1).trans hk
theorem yE {w:World} {p:Addr} {v:Value} (hc:w.cell? p=some v):p.block < w.heap.size:=by
 rcases Nat.lt_or_ge p.block w.heap.size with h|h
 ·exact h
 ·simp[World.cell?,Array.getElem?_eq_none h] at hc
theorem jA.cell {w w':World} (h:jA w w') {p:Addr} {v:Value} (hc:w.cell? p=some v):w'.cell? p=some v:=
 (Below.cell h (yE hc)).trans hc
theorem jA.frozen {w w':World} (h:jA w w') {p:Addr} {b:Bool} (hp:p.block < w.heap.size) (hc:w.frozen? p=b):w'.frozen? p=b:=
 (Below.frozen h hp).trans hc
theorem jA.rules {W w1:World} (hb:jA W w1):(∀b o,b < W.heap.size→w1.cell? ⟨b,o,none⟩=W.cell? ⟨b,o,none⟩)∧(∀b o,b < W.heap.size→w1.frozen? ⟨b,o,none⟩=W.frozen? ⟨b,o,none⟩)∧W.heap.size≤w1.heap.size:=
 ⟨fun b o h=>Below.cell (p:=⟨b,o,none⟩) hb h,fun b o h=>Below.frozen (p:=⟨b,o,none⟩) hb h,hb.size⟩
/-! ### filling the slots of a frame -/
section
variable {P:Program} {ops:Array Oper}
def jB (y:Nat→Value):List (Nat × Nat)→Act→Act
 | [],a=>a
 | (d,j)::r,a=>jB y r (a.put (some d) (y j))
theorem put_put (a:Act) (d:Nat) (u v:Value):(a.put (some d) u).put (some d) v=a.put (some d) v:=by
 simp[Act.put]
theorem Q6 (y:Nat→Value) (d:Nat) (u:Value):∀(r:List (Nat × Nat)) (a:Act),(∀p∈r,p.1≠d)→jB y r (a.put (some d) u)=(jB y r a).put (some d) u
 | [],_,_=>rfl
 | (e,j)::r,a,h=>by
  have hne:e≠d:=h (e,j) (by simp)
  have hc:(a.put (some d) u).put (some e) (y j)=(a.put (some e) (y j)).put (some d) u:=Act.put_comm a u (y j) (fun x hx hy=>by cases hx;cases hy;exact hne rfl)
  show jB y r ((a.put (some d) u).put (some e) (y j))=_
  rw[hc]
  exact Q6 y d u r _ (fun p hp=>h p (by simp[hp]))
theorem qN (y z:Nat→Value):∀(r:List (Nat × Nat)) (a:Act),(∀p∈r,y p.2=z p.2)→jB y r a=jB z r a
 | [],_,_=>rfl
 | (e,j)::r,a,h=>by
  show jB y r (a.put (some e) (y j))=jB z r (a.put (some e) (z j))
  rw[h (e,j) (by simp)]
  exact qN y z r _ (fun p hp=>h p (by simp[hp]))
def Q7:List (Nat × Nat)→Bool
 | []=>true
 | p::r=>r.all (fun q=>q.1 != p.1 && q.2 != p.2) && Q7 r
theorem KA (y:Nat→Value) (i:Nat) (v:Value):∀(L:List (Nat × Nat)) (a:Act) (d:Nat),Q7 L=true→(d,i)∈L →
 jB (fun k=>if k=i then v else y k) L a=(jB y L a).put (some d) v
 | (e,j)::r,a,d,hk,hm=>by
  simp only[Q7,Bool.and_eq_true,List.all_eq_true,bne_iff_ne] at hk
  obtain⟨hne,hk⟩:=hk
  show jB _ r (a.put (some e) (if j=i then v else y j))=(jB y r (a.put (some e) (y j))).put (some d) v
  rcases List.mem_cons.1 hm with h|h
  ·obtain⟨rfl,rfl⟩:=Prod.mk.injEq .. ▸ h
   rw[if_pos rfl,qN _ y r _ (fun p hp=>if_neg (hne p hp).2),Q6 y d v r a (fun p hp=>(hne p hp).1),Q6 y d (y i) r a (fun p hp=>(hne p hp).1),put_put]
  ·have hij:j≠i:=fun he=>(hne _ h).2 he.symm
   rw[if_neg hij]
   exact KA y i v r _ d hk h
theorem yS (y:Nat→Value) (p:Nat × Nat→Bool):∀(L:List (Nat × Nat)) (a:Act),Q7 L=true→(∀q∈L,p q=false→a.put (some q.1) (y q.2)=a) →
 jB y (L.filter p) a=jB y L a
 | [],_,_,_=>rfl
 | (e,j)::r,a,hk,h=>by
  simp only[Q7,Bool.and_eq_true,List.all_eq_true,bne_iff_ne] at hk
  obtain⟨hne,hk⟩:=hk
  have hr:∀q∈r,p q=false→(a.put (some e) (y j)).put (some q.1) (y q.2)=a.put (some e) (y j):=fun q hq hp=>by
   rw[← Act.put_comm a (y q.2) (y j) (fun x hx hy=>by cases hx;cases hy;exact (hne q hq).1 rfl),h q (by simp[hq]) hp]
  cases hp:p (e,j) with
  | true=>
   rw[List.filter_cons_of_pos hp]
   exact yS y p r _ hk hr
  | false=>
   rw[List.filter_cons_of_neg (by simp[hp])]
   have h0:=h (e,j) (by simp) hp
   show jB y (r.filter p) a=jB y r (a.put (some e) (y j))
   simp only at h0
   rw[h0] at hr⊢
   exact yS y p r _ hk hr
def zJ (ops:Array Oper):List (Nat × Nat):=(List.range ops.size).filterMap fun j=>((ops[j]?).bind (·.dst)).map fun d=>(d,j)
theorem mem_pairsOf {d j:Nat}:(d,j)∈zJ ops↔(ops[j]?).bind (·.dst)=some d:=by
 unfold zJ
 rw[List.mem_filterMap]
 constructor
 ·rintro ⟨k,_,hk⟩
  cases hd:(ops[k]?).bind (·.dst) with
  | none=>simp[hd] at hk
  | some e=>simp[hd] at hk;obtain⟨rfl,rfl⟩:=hk;exact hd
 ·intro h
  refine⟨j,?_,by simp[h]⟩
  rw[List.mem_range]
  rcases Nat.lt_or_ge j ops.size with h'|h'
  ·exact h'
  ·rw[Array.getElem?_eq_none h'] at h;cases h
def QE (D:Array (List Nat)) (i j:Nat):Bool:=(D.getD j []).contains i
def yF (ops:Array Oper) (D:Array (List Nat)) (i:Nat):List (Nat × Nat):=(zJ ops).filter fun q=>!(q.2 == i || QE D i q.2)
def vK (ops:Array Oper) (D:Array (List Nat)):Bool:=
 Q7 (zJ ops) &&
 (List.range ops.size).all fun i=>
  match ops[i]? with
  | none=>true
  | some o=>
   let es:=(o.after.toList.filter (Region.binds .any)).map (·.on)
   es.all (fun e=>e < i) && (D.getD i []).all fun k=>es.any fun e=>e == k || (D.getD e []).contains k
def YU (P:Program) (ops:Array Oper) (R:World→World→Prop) (D:Array (List Nat)) (Φ:Nat→Value→World→Prop) (a0:Act) (w0:World) (i:Nat) (o:Oper):Prop:=
 ∀(y:Nat→Value) (w:World),R w0 w→(∀j∈D.getD i [],Φ j (y j) w)→∀K:Act→World→Prop,
  (∀v w',R w w'→Φ i v w'→K ((jB y (yF ops D i) a0).put o.dst v) w') →
  if Region.wanted o (yielded ops (jB y (yF ops D i) a0).tmps) then o.wp P (jB y (yF ops D i) a0) w K (fun _ _ _=>False) else K ((jB y (yF ops D i) a0).put o.dst undef) w
def JL (p:Nat→Oper→Prop):Nat→List Oper→Prop
 | _,[]=>True
 | i,o::r=>p i o∧JL p (i+1) r
theorem vZ {p:Nat→Oper→Prop}:∀(l:List Oper) (i k:Nat) (o:Oper),JL p i l→l[k]? = some o→p (i+k) o:=by
 intro l
 induction l with
 | nil=>intro i k o _ hk;cases hk
 | cons o' r ih=>
  intro i k o h hk
  cases k with
  | zero=>
   rw[List.getElem?_cons_zero,Option.some.injEq] at hk
   rw[← hk];exact h.1
  | succ k=>
   rw[List.getElem?_cons_succ] at hk
   have h2:=ih (i+1) k o h.2 hk
   have e:i+(k+1)=i+1+k:=by omega
   rw[e];exact h2
theorem KB {p q:Nat→Bool}:∀(l:List Nat) (i:Nat),(∀j,q j=true→p j=true)→i∈l→p i=true→q i=false→(l.filter q).length < (l.filter p).length
 | x::l,i,h,hm,hp,hq=>by
  have hle:∀l:List Nat,(l.filter q).length≤(l.filter p).length:=fun l=>by
   induction l with
   | nil=>simp
   | cons y l ih=>
    cases hqy:q y with
    | true=>rw[List.filter_cons_of_pos hqy,List.filter_cons_of_pos (h y hqy)];simpa using ih
    | false=>
     rw[List.filter_cons_of_neg (by simp[hqy])]
     cases hpy:p y with
     | true=>rw[List.filter_cons_of_pos hpy];simp;omega
     | false=>rw[List.filter_cons_of_neg (by simp[hpy])];exact ih
  rcases List.mem_cons.1 hm with he|he
  ·subst he
   rw[List.filter_cons_of_pos hp,List.filter_cons_of_neg (by simp[hq])]
   have:=hle l
   simp;omega
  ·have ih:=KB l i h he hp hq
   cases hqx:q x with
   | true=>rw[List.filter_cons_of_pos hqx,List.filter_cons_of_pos (h x hqx)];simpa using ih
   | false=>
    rw[List.filter_cons_of_neg (by simp[hqx])]
    cases hpx:p x with
    | true=>rw[List.filter_cons_of_pos hpx];simp;omega
    | false=>rw[List.filter_cons_of_neg (by simp[hpx])];exact ih
structure InvF (ops:Array Oper) (R:World→World→Prop) (D:Array (List Nat)) (Φ:Nat→Value→World→Prop) (a0:Act) (w0:World) (jD:Array Bool) (a:Act) (w:World) (y:Nat→Value):Prop where
 size:jD.size=ops.size
 act:a=jB y (zJ ops) a0
 grown:R w0 w
 facts:∀j,jD.getD j false=true→Φ j (y j) w
 open_:∀j d,jD.getD j true=false→(ops[j]?).bind (·.dst)=some d→a0.put (some d) (y j)=a0
 closed:∀j,jD.getD j false=true→∀k∈D.getD j [],jD.getD k false=true
theorem vM (a:Act) (d:Nat):a.put (some d) (a.tmps.getD d undef)=a:=by
 cases a with
 | mk t df=>
  simp only[Act.put]
  congr 1
  apply Array.ext
  ·simp
  ·intro i h1 h2
   rw[Array.getElem_setIfInBounds h2]
   split
   ·rename_i he;subst he;simp[Array.getD,h2]
   ·rfl
theorem kG {jD:Array Bool} {j:Nat} (hj:j < jD.size):jD.getD j true=jD.getD j false:=by
 simp[Array.getD,hj]
theorem aV {R:World→World→Prop} {D:Array (List Nat)} {Φ:Nat→Value→World→Prop} {a0:Act} {w0:World} {Q:Exit→Act→World→Prop}
 (hRt:∀{a b c:World},R a b→R b c→R a c) (hchk:vK ops D=true) (hst:∀j v w w',R w w'→Φ j v w→Φ j v w') (hrr:∀w,R w w)
 (hop:∀i o,ops[i]? = some o→YU P ops R D Φ a0 w0 i o)
 (hfin:∀y w,R w0 w→(∀j,j < ops.size→Φ j (y j) w)→Q .normal (jB y (zJ ops) a0) w) :
 ∀(fuel:Nat) (jD:Array Bool) (a:Act) (w:World) (y:Nat→Value),((List.range ops.size).filter fun j=>!jD.getD j true).length≤fuel →
  InvF ops R D Φ a0 w0 jD a w y→wpAny P .any ops Q fuel jD a w:=by
 simp only[vK,Bool.and_eq_true,List.all_eq_true,List.mem_range] at hchk
 obtain⟨hkeys,hrows⟩:=hchk
 -- nothing ready: all has been jD
 have q8:∀(jD:Array Bool),jD.size=ops.size→Region.ready .any ops jD=[]→∀j,j < ops.size→jD.getD j false=true:=by
  intro jD hs kQ j
  induction j using Nat.strongRecOn with
  | ind j ih=>
   intro hj
   cases hl:jD.getD j false with
   | true=>rfl
   | false=>
    exfalso
    have hmem:j∈Region.ready .any ops jD:=by
     rw[mem_ready]
     refine⟨by rw[kG (by omega)];exact hl,ops[j],Array.getElem?_eq_getElem hj,fun e he hb=>?_⟩
     have jJ:=hrows j hj
     rw[Array.getElem?_eq_getElem hj] at jJ
     simp only[Bool.and_eq_true,List.all_eq_true,decide_eq_true_eq] at jJ
     have hlt:=jJ.1 e.on (List.mem_map.2 ⟨e,List.mem_filter.2 ⟨by simpa using he,hb⟩,rfl⟩)
     exact ih e.on hlt (by omega)
    rw[kQ] at hmem
    cases hmem
 have hdone:∀(jD:Array Bool) (a:Act) (w:World) (y:Nat→Value),InvF ops R D Φ a0 w0 jD a w y→Region.ready .any ops jD=[]→Q .normal a w:=by
  intro jD a w y hI kQ
  rw[hI.act]
  exact hfin y w hI.grown (fun j hj=>hI.facts j (q8 jD hI.size kQ j hj))
 intro fuel
 induction fuel with
 | zero=>
  intro jD a w y j8 hI
  have kQ:Region.ready .any ops jD=[]:=by
   have h0:((List.range ops.size).filter fun j=>!jD.getD j true)=[]:=List.length_eq_zero_iff.1 (by omega)
   refine List.eq_nil_iff_forall_not_mem.2 fun j hj=>?_
   have hj':=mem_ready.1 hj
   have:j∈((List.range ops.size).filter fun j=>!jD.getD j true):=by
    obtain⟨hl,o,ho,_⟩:=hj'
    exact List.mem_filter.2 ⟨List.mem_range.2 (Array.getElem?_eq_some_iff.1 ho).1,by simp[hl]⟩
   rw[h0] at this
   cases this
  exact⟨kQ,hdone jD a w y hI kQ⟩
 | succ fuel ih=>
  intro jD a w y j8 hI
  refine⟨hdone jD a w y hI,fun i hi=>?_⟩
  obtain⟨hun,o,ho,hedges⟩:=mem_ready.1 hi
  have hilt:i < ops.size:=(Array.getElem?_eq_some_iff.1 ho).1
  have hunf:jD.getD i false=false:=by rw[← kG (by rw[hI.size];exact hilt)];exact hun
  have jJ:=hrows i hilt
  rw[ho] at jJ
  simp only[Bool.and_eq_true,List.all_eq_true,decide_eq_true_eq,List.any_eq_true,Bool.or_eq_true,beq_iff_eq,List.contains_iff_mem] at jJ
  -- what i QE for has been jD
  have hD:∀k∈D.getD i [],jD.getD k false=true:=by
   intro k hk
   obtain⟨e,he,hek⟩:=jJ.2 k hk
   obtain⟨ed,hed,rfl⟩:=List.mem_map.1 he
   obtain⟨hed1,hed2⟩:=List.mem_filter.1 hed
   have hl:=hedges ed (by simpa using hed1) hed2
   rcases hek with rfl|hek
   ·exact hl
   ·exact hI.closed _ hl k hek
  have hcan:jB y (yF ops D i) a0=a:=by
   rw[hI.act]
   refine yS y _ _ a0 hkeys ?_
   rintro ⟨d,j⟩ hq hp
   simp only[Bool.not_eq_false',Bool.or_eq_true,beq_iff_eq] at hp
   have hdst:=mem_pairsOf.1 hq
   refine hI.open_ j d ?_ hdst
   rcases hp with rfl|hw
   ·exact hun
   ·have hjlt:j < jD.size:=by
     rw[hI.size]
     rcases Nat.lt_or_ge j ops.size with h'|h'
     ·exact h'
     ·rw[Array.getElem?_eq_none h'] at hdst;cases hdst
    rw[kG hjlt]
    cases hl:jD.getD j false with
    | false=>rfl
    | true=>
     have:=hI.closed j hl i (by simpa [QE] using hw)
     rw[hunf] at this
     cases this
  have hw:=hop i o ho y w hI.grown (fun j hj=>hI.facts j (hD j hj)) (fun a' w'=>∃v,a'=a.put o.dst v∧R w w'∧Φ i v w')
  rw[hcan] at hw
  have hlen':((List.range ops.size).filter fun j=>!(jD.setIfInBounds i true).getD j true).length≤fuel:=by
   have:((List.range ops.size).filter fun j=>!(jD.setIfInBounds i true).getD j true).length < ((List.range ops.size).filter fun j=>!jD.getD j true).length:=by
    refine KB _ i (fun j hj=>?_) (List.mem_range.2 hilt) (by rw[hun];rfl) ?_
    ·by_cases hij:i=j
     ·subst hij
      have h2:i < jD.size:=by rw[hI.size];exact hilt
      simp[h2] at hj
     ·rw[getD_set_ne true hij] at hj;exact hj
    ·have h2:i < jD.size:=by rw[hI.size];exact hilt
     simp[h2]
   omega
  have hnext:∀v w',R w w'→Φ i v w'→wpAny P .any ops Q fuel (jD.setIfInBounds i true) (a.put o.dst v) w':=by
   intro v w' hr hφ
   have h2:i < jD.size:=by rw[hI.size];exact hilt
   refine ih _ _ _ (fun k=>if k=i then v else y k) hlen' ⟨by simp[hI.size],?_,hRt hI.grown hr,?_,?_,?_⟩
   ·cases hd:o.dst with
    | none=>
     rw[hI.act]
     show jB y (zJ ops) a0=_
     refine qN _ _ _ _ fun p hp=>?_
     have:=mem_pairsOf.1 (show (p.1,p.2)∈zJ ops from hp)
     have hne:p.2≠i:=fun he=>by rw[he,ho] at this;simp[hd] at this
     simp[hne]
    | some d=>
     rw[hI.act,KA y i v _ a0 d hkeys (mem_pairsOf.2 (by simp[ho,hd]))]
   ·intro j hj
    by_cases hji:j=i
    ·subst hji;simpa using hφ
    ·simp only[hji,if_false]
     rw[getD_set_ne false (Ne.symm hji)] at hj
     exact hst j _ _ _ hr (hI.facts j hj)
   ·intro j d hj hdst
    have hji:j≠i:=fun he=>by subst he;simp[h2] at hj
    simp only[hji,if_false]
    rw[getD_set_ne true (Ne.symm hji)] at hj
    exact hI.open_ j d hj hdst
   ·intro j hj k hk
    by_cases hji:j=i
    ·subst hji;exact getD_set_true (hD k hk)
    ·rw[getD_set_ne false (Ne.symm hji)] at hj
     exact getD_set_true (hI.closed j hj k hk)
  unfold wpOp
  simp only[ho]
  have hw2:=hw (fun v w' hr hφ=>⟨v,rfl,hr,hφ⟩)
  split at hw2
  ·rename_i hwa
   rw[if_pos hwa]
   refine .inl ?_
   have h3:o.wp P a w (wpAny P .any ops Q fuel (jD.setIfInBounds i true)) (fun _ _ _=>False):=
    Oper.wp_mono (fun a' w' ⟨v,he,hr,hφ⟩=>by subst he;exact hnext v w' hr hφ) hw2
   exact wp_exit h3
  ·rename_i hwa
   rw[if_neg hwa]
   obtain⟨v,he,hr,hφ⟩:=hw2
   rw[he]
   exact hnext v w hr hφ
where
 wp_exit {o:Oper} {a:Act} {w:World} {K:Act→World→Prop} {Q:Exit→Act→World→Prop} (h:o.wp P a w K (fun _ _ _=>False)):o.wp P a w K Q:=by
  unfold Oper.wp at *
  generalize (execOp a.eval o).run P w=r at *
  cases r with
  | ok n w'=>
   cases n<;>simp only[Oper.upon] at h⊢
   case enter f args=>
    refine Calls.mono h fun e w'' he=>?_
    cases e with
    | returned v=>exact he
    | panicked c=>exact he.elim
    | outgrown=>obtain⟨_,_,hq⟩:=he;exact hq.elim
   all_goals exact h
  | halt x w'=>cases x<;>simp only[Oper.upon] at h
theorem aE {id:Nat} {a0:Act} {w0:World} {Q:Exit→Act→World→Prop} (R:World→World→Prop) (D:Array (List Nat)) (Φ:Nat→Value→World→Prop) (hm:P.follows .mixedOrders=true)
 (hRt:∀{a b c:World},R a b→R b c→R a c) (hrr:∀w,R w w) (hd:R w0 w0.drew) (hchk:vK ops D=true) (hst:∀j v w w',R w w'→Φ j v w→Φ j v w')
 (hop:JL (YU P ops R D Φ a0 w0) 0 ops.toList)
 (hfin:∀y w,R w0 w→(∀j,j < ops.size→Φ j (y j) w)→Q .normal (jB y (zJ ops) a0) w):(Code.region id ops true).wp P Q a0 w0:=by
 refine wp_region_any hm ?_
 refine aV (R:=R) (D:=D) (Φ:=Φ) (a0:=a0) (w0:=w0) hRt hchk hst hrr (fun i o ho=>?_) hfin ops.size _ a0 _ (fun j=>match (ops[j]?).bind (·.dst) with | some d=>a0.tmps.getD d undef | none=>undef) ?_ ⟨by simp,?_,hd,?_,?_,?_⟩
 ·have:=vZ _ 0 i o hop (by simpa using ho)
  simpa using this
 ·exact Nat.le_trans (List.length_filter_le _ _) (by simp)
 ·symm
  have:∀(L:List (Nat × Nat)),(∀p∈L,(ops[p.2]?).bind (·.dst)=some p.1)→jB (fun j=>match (ops[j]?).bind (·.dst) with | some d=>a0.tmps.getD d undef | none=>undef) L a0=a0:=by
   intro L
   induction L with
   | nil=>intro _;rfl
   | cons p L ih=>
    intro h
    obtain⟨d,j⟩:=p
    have hd:=h (d,j) (by simp)
    simp only at hd
    show jB _ L (a0.put (some d) _)=a0
    simp only[hd]
    rw[vM]
    exact ih (fun p hp=>h p (by simp[hp]))
  exact this _ (fun p hp=>mem_pairsOf.1 hp)
 ·intro j hj
  have h:(Array.replicate ops.size false).getD j false=false:=by
   simp[Array.getD]
  rw[h] at hj;cases hj
 ·intro j d _ hdst
  simp only[hdst]
  exact vM a0 d
 ·intro j hj
  have h:(Array.replicate ops.size false).getD j false=false:=by
   simp[Array.getD]
  rw[h] at hj;cases hj
/-! ### the same with written-out tables -/
def Is (v:Value) (u:Value) (_:World):Prop:=u=v
def zD (Φ:List (Value→World→Prop)) (y:Nat→Value) (w:World):List Nat→Prop
 | []=>True
 | j::r=>Φ.getD j (fun _ _=>True) (y j) w∧zD Φ y w r
theorem QF {Φ:List (Value→World→Prop)} {y:Nat→Value} {w:World}:∀(d:List Nat),(∀j∈d,Φ.getD j (fun _ _=>True) (y j) w)→zD Φ y w d
 | [],_=>trivial
 | j::r,h=>⟨h j (by simp),QF r (fun k hk=>h k (by simp[hk]))⟩
def stL (R:World→World→Prop):List (Value→World→Prop)→Prop
 | []=>True
 | φ::r=>(∀v w w',R w w'→φ v w→φ v w')∧stL R r
theorem aL {R:World→World→Prop}:∀(Φ:List (Value→World→Prop)),stL R Φ→∀φ∈Φ,∀v w w',R w w'→φ v w→φ v w'
 | φ::r,h,ψ,hm=>by
  rcases List.mem_cons.1 hm with e|e
  ·subst e;exact h.1
  ·exact aL r h.2 ψ e
theorem jS {R:World→World→Prop} {x:Value}:∀v w w',R w w'→Is x v w→Is x v w':=fun _ _ _ _ h=>h
def yV (y:Nat→Value) (w:World):Nat→List (Value→World→Prop)→Prop
 | _,[]=>True
 | i,φ::r=>φ (y i) w∧yV y w (i+1) r
theorem Z7 {Φ0:List (Value→World→Prop)} {y:Nat→Value} {w:World}:∀(Φ:List (Value→World→Prop)) (i:Nat),(∀k,Φ[k]? = Φ0[i+k]?)→(∀j,j < i+Φ.length→Φ0.getD j (fun _ _=>True) (y j) w)→yV y w i Φ
 | [],_,_,_=>trivial
 | φ::r,i,h,hj=>by
  refine⟨?_,Z7 r (i+1) (fun k=>?_) (fun j hj'=>hj j (by simp;omega))⟩
  ·have h0:=hj i (by simp)
   have:=h 0
   simp at this
   simpa [List.getD_eq_getElem?_getD,← this] using h0
  ·have:=h (k+1)
   simp at this
   rw[this];congr 1;omega
def word (P:Program) (ops:Array Oper) (R:World→World→Prop) (Φ:List (Value→World→Prop)) (a0:Act) (w0:World) (i:Nat) (o:Oper) (d:List Nat) (c:List (Nat × Nat)):Prop:=
 ∀(y:Nat→Value) (w:World),R w0 w→zD Φ y w d→∀K:Act→World→Prop,
  (∀a' v w',a'=(jB y c a0).put o.dst v→R w w'→Φ.getD i (fun _ _=>True) v w'→K a' w') →
  if Region.wanted o (yielded ops (jB y c a0).tmps) then o.wp P (jB y c a0) w K (fun _ _ _=>False) else K ((jB y c a0).put o.dst undef) w
def allW (P:Program) (ops:Array Oper) (R:World→World→Prop) (Φ:List (Value→World→Prop)) (a0:Act) (w0:World):Nat→List Oper→List (List Nat)→List (List (Nat × Nat))→Prop
 | _,[],_,_=>True
 | i,o::r,d::ds,c::cs=>word P ops R Φ a0 w0 i o d c∧allW P ops R Φ a0 w0 (i+1) r ds cs
 | _,_::_,_,_=>False
def vN (ops:Array Oper) (D:List (List Nat)) (C:List (List (Nat × Nat))) (F:List (Nat × Nat)):Bool:=
 vK ops D.toArray && (decide (F=zJ ops)) && (List.range ops.size).all fun i=>decide (C.getD i []=yF ops D.toArray i)
theorem aW {R:World→World→Prop} {Φ:List (Value→World→Prop)} {a0:Act} {w0:World} (D0:List (List Nat)) (C0:List (List (Nat × Nat))) (hC:∀i,i < ops.size→C0.getD i []=yF ops D0.toArray i) :
 ∀(l:List Oper) (i:Nat) (D:List (List Nat)) (C:List (List (Nat × Nat))),i+l.length=ops.size→(∀k,D[k]? = D0[i+k]?)→(∀k,C[k]? = C0[i+k]?)→allW P ops R Φ a0 w0 i l D C →
  JL (YU P ops R D0.toArray (fun j=>Φ.getD j (fun _ _=>True)) a0 w0) i l:=by
 intro l
 induction l with
 | nil=>intros;trivial
 | cons o r ih=>
  intro i D C hl hD hC' h
  match D,C,h with
  | d::ds,c::cs,h=>
   obtain⟨h1,h2⟩:=h
   refine⟨?_,ih (i+1) ds cs (by simp at hl;omega) (fun k=>?_) (fun k=>?_) h2⟩
   ·have hd:D0.toArray.getD i []=d:=by
     have:=hD 0
     simp at this
     simp[Array.getD_eq_getD_getElem?,← this]
    have hc:yF ops D0.toArray i=c:=by
     rw[← hC i (by simp at hl;omega)]
     have:=hC' 0
     simp at this
     simp[List.getD_eq_getElem?_getD,← this]
    intro y w hR hj K hK
    rw[hd] at hj
    rw[hc] at hK⊢
    exact h1 y w hR (QF _ hj) K (fun a' v w' he hr hφ=>by subst he;exact hK v w' hr hφ)
   ·have:=hD (k+1)
    simp at this
    rw[this];congr 1;omega
   ·have:=hC' (k+1)
    simp at this
    rw[this];congr 1;omega
theorem k8 {id:Nat} {a0:Act} {w0:World} {Q:Exit→Act→World→Prop} (R:World→World→Prop) (D:List (List Nat)) (C:List (List (Nat × Nat))) (F:List (Nat × Nat)) (Φ:List (Value→World→Prop)) (hm:P.follows .mixedOrders=true)
 (hRt:∀{a b c:World},R a b→R b c→R a c) (hrr:∀w,R w w) (hd:R w0 w0.drew) (hchk:vN ops D C F=true) (hst:stL R Φ)
 (hop:allW P ops R Φ a0 w0 0 ops.toList D C)
 (j8:Φ.length=ops.size)
 (hfin:∀y w,R w0 w→yV y w 0 Φ→Q .normal (jB y F a0) w):(Code.region id ops true).wp P Q a0 w0:=by
 simp only[vN,Bool.and_eq_true,decide_eq_true_eq,List.all_eq_true,List.mem_range] at hchk
 obtain⟨⟨h1,h2⟩,h3⟩:=hchk
 subst h2
 refine aE R D.toArray (fun j=>Φ.getD j (fun _ _=>True)) hm hRt hrr hd h1 ?_ (aW D C h3 ops.toList 0 D C (by simp) (by simp) (by simp) hop) (fun y w hr hj=>hfin y w hr (Z7 Φ 0 (by simp) (fun j h=>hj j (by rw[← j8];simpa using h))))
 intro j v w w' hr hφ
 rcases Nat.lt_or_ge j Φ.length with hj|hj
 ·have e:Φ.getD j (fun _ _=>True)=Φ[j]:=by simp[List.getD_eq_getElem?_getD,hj]
  rw[e] at hφ⊢
  exact aL Φ hst _ (List.getElem_mem hj) v w w' hr hφ
 ·have e:Φ.getD j (fun _ _=>True)=fun _ _=>True:=by simp[List.getD_eq_getElem?_getD,hj]
  rw[e];trivial
end
section
variable {P:Program} {ops:Array Oper}
def rI (ops:Array Oper):Bool:=
 (List.range (ops.size - 1)).all fun j=>(List.range ops.size).any fun k=>decide (j < k) && match ops[k]? with | some o=>o.after.any fun e=>Region.binds .any e && e.on == j | none=>false
theorem aF {R:World→World→Prop} {D:Array (List Nat)} {Φ:Nat→Value→World→Prop} {a0:Act} {w0:World} {Q:Exit→Act→World→Prop}
 (hRt:∀{a b c:World},R a b→R b c→R a c) (hchk:vK ops D=true) (hst:∀j v w w',R w w'→Φ j v w→Φ j v w') (hrr:∀w,R w w)
 (hop:∀i o,i+1 < ops.size→ops[i]? = some o→YU P ops R D Φ a0 w0 i o) (hpos:0 < ops.size) (hsink:rI ops=true)
 (hfin:∀o,ops[ops.size - 1]? = some o→∀y w,R w0 w→(∀j,j+1 < ops.size→Φ j (y j) w)→∀a,a=jB y (yF ops D (ops.size - 1)) a0 →
  if Region.wanted o (yielded ops a.tmps) then o.wp P a w (fun a' w'=>Q .normal a' w') (fun _ _ _=>False) else Q .normal (a.put o.dst undef) w) :
 ∀(fuel:Nat) (jD:Array Bool) (a:Act) (w:World) (y:Nat→Value),((List.range ops.size).filter fun j=>!jD.getD j true).length≤fuel →
  InvF ops R D Φ a0 w0 jD a w y→(∀j o,ops[j]? = some o→jD.getD j false=true→∀e∈o.after,Region.binds .any e=true→jD.getD e.on false=true)→jD.getD (ops.size - 1) true=false→wpAny P .any ops Q fuel jD a w:=by
 simp only[vK,Bool.and_eq_true,List.all_eq_true,List.mem_range] at hchk
 obtain⟨hkeys,hrows⟩:=hchk
 -- nothing ready: all has been jD
 have q8:∀(jD:Array Bool),jD.size=ops.size→Region.ready .any ops jD=[]→∀j,j < ops.size→jD.getD j false=true:=by
  intro jD hs kQ j
  induction j using Nat.strongRecOn with
  | ind j ih=>
   intro hj
   cases hl:jD.getD j false with
   | true=>rfl
   | false=>
    exfalso
    have hmem:j∈Region.ready .any ops jD:=by
     rw[mem_ready]
     refine⟨by rw[kG (by omega)];exact hl,ops[j],Array.getElem?_eq_getElem hj,fun e he hb=>?_⟩
     have jJ:=hrows j hj
     rw[Array.getElem?_eq_getElem hj] at jJ
     simp only[Bool.and_eq_true,List.all_eq_true,decide_eq_true_eq] at jJ
     have hlt:=jJ.1 e.on (List.mem_map.2 ⟨e,List.mem_filter.2 ⟨by simpa using he,hb⟩,rfl⟩)
     exact ih e.on hlt (by omega)
    rw[kQ] at hmem
    cases hmem
 have hdone:∀(jD:Array Bool) (a:Act) (w:World) (y:Nat→Value),InvF ops R D Φ a0 w0 jD a w y→jD.getD (ops.size - 1) true=false→Region.ready .any ops jD=[]→Q .normal a w:=by
  intro jD a w y hI hl kQ
  have:=q8 jD hI.size kQ (ops.size - 1) (by omega)
  rw[← kG (by rw[hI.size];omega),hl] at this
  cases this
 intro fuel
 induction fuel with
 | zero=>
  intro jD a w y j8 hI hE hL
  have kQ:Region.ready .any ops jD=[]:=by
   have h0:((List.range ops.size).filter fun j=>!jD.getD j true)=[]:=List.length_eq_zero_iff.1 (by omega)
   refine List.eq_nil_iff_forall_not_mem.2 fun j hj=>?_
   have hj':=mem_ready.1 hj
   have:j∈((List.range ops.size).filter fun j=>!jD.getD j true):=by
    obtain⟨hl,o,ho,_⟩:=hj'
    exact List.mem_filter.2 ⟨List.mem_range.2 (Array.getElem?_eq_some_iff.1 ho).1,by simp[hl]⟩
   rw[h0] at this
   cases this
  exact⟨kQ,hdone jD a w y hI hL kQ⟩
 | succ fuel ih=>
  intro jD a w y j8 hI hE hL
  refine⟨hdone jD a w y hI hL,fun i hi=>?_⟩
  obtain⟨hun,o,ho,hedges⟩:=mem_ready.1 hi
  have hilt:i < ops.size:=(Array.getElem?_eq_some_iff.1 ho).1
  have hunf:jD.getD i false=false:=by rw[← kG (by rw[hI.size];exact hilt)];exact hun
  have jJ:=hrows i hilt
  rw[ho] at jJ
  simp only[Bool.and_eq_true,List.all_eq_true,decide_eq_true_eq,List.any_eq_true,Bool.or_eq_true,beq_iff_eq,List.contains_iff_mem] at jJ
  -- what i QE for has been jD
  have hD:∀k∈D.getD i [],jD.getD k false=true:=by
   intro k hk
   obtain⟨e,he,hek⟩:=jJ.2 k hk
   obtain⟨ed,hed,rfl⟩:=List.mem_map.1 he
   obtain⟨hed1,hed2⟩:=List.mem_filter.1 hed
   have hl:=hedges ed (by simpa using hed1) hed2
   rcases hek with rfl|hek
   ·exact hl
   ·exact hI.closed _ hl k hek
  have hcan:jB y (yF ops D i) a0=a:=by
   rw[hI.act]
   refine yS y _ _ a0 hkeys ?_
   rintro ⟨d,j⟩ hq hp
   simp only[Bool.not_eq_false',Bool.or_eq_true,beq_iff_eq] at hp
   have hdst:=mem_pairsOf.1 hq
   refine hI.open_ j d ?_ hdst
   rcases hp with rfl|hw
   ·exact hun
   ·have hjlt:j < jD.size:=by
     rw[hI.size]
     rcases Nat.lt_or_ge j ops.size with h'|h'
     ·exact h'
     ·rw[Array.getElem?_eq_none h'] at hdst;cases hdst
    rw[kG hjlt]
    cases hl:jD.getD j false with
    | false=>rfl
    | true=>
     have:=hI.closed j hl i (by simpa [QE] using hw)
     rw[hunf] at this
     cases this
  by_cases hlast:i=ops.size - 1
  ·-- the last: all others have been jD
   subst hlast
   have hothers:∀d j,ops.size - 1 - j=d→j+1 < ops.size→jD.getD j false=true:=by
    intro d
    induction d using Nat.strongRecOn with
    | ind d ihd=>
     intro j hd hj
     have h1:=List.all_eq_true.1 hsink j (List.mem_range.2 (by omega))
     obtain⟨k,hk,hk2⟩:=List.any_eq_true.1 h1
     simp only[Bool.and_eq_true,decide_eq_true_eq] at hk2
     have hkn:=List.mem_range.1 hk
     obtain⟨hjk,hwt⟩:=hk2
     cases hok:ops[k]? with
     | none=>simp[hok] at hwt
     | some ok=>
      simp only[hok,Array.any_eq_true'] at hwt
      obtain⟨e,he,hb⟩:=hwt
      simp only[Bool.and_eq_true,beq_iff_eq] at hb
      rw[← hb.2]
      by_cases hkl:k=ops.size - 1
      ·subst hkl
       rw[ho] at hok;cases hok
       exact hedges e he hb.1
      ·exact hE k ok hok (ihd (ops.size - 1 - k) (by omega) k rfl (by omega)) e he hb.1
   have hfl:=hfin o ho y w hI.grown (fun j hj=>hI.facts j (hothers _ j rfl hj)) a hcan.symm
   have hend:∀v w',Q .normal v w'→wpAny P .any ops Q fuel (jD.setIfInBounds (ops.size - 1) true) v w':=by
    intro v w' hq
    have kQ:Region.ready .any ops (jD.setIfInBounds (ops.size - 1) true)=[]:=by
     refine List.eq_nil_iff_forall_not_mem.2 fun j hj=>?_
     obtain⟨hl,o',ho',_⟩:=mem_ready.1 hj
     have hjlt:j < ops.size:=(Array.getElem?_eq_some_iff.1 ho').1
     by_cases hjl:ops.size - 1=j
     ·subst hjl
      have h2:ops.size - 1 < jD.size:=by rw[hI.size];exact hilt
      simp[h2] at hl
     ·rw[getD_set_ne true hjl,kG (by rw[hI.size];exact hjlt),hothers _ j rfl (by omega)] at hl
      cases hl
    cases fuel with
    | zero=>exact⟨kQ,hq⟩
    | succ f=>exact⟨fun _=>hq,fun j hj=>by rw[kQ] at hj;cases hj⟩
   unfold wpOp
   simp only[ho]
   split at hfl
   ·rename_i hwa
    rw[if_pos hwa]
    exact .inl (wp_exit (Oper.wp_mono (fun a' w' hq=>hend a' w' hq) hfl))
   ·rename_i hwa
    rw[if_neg hwa]
    exact hend _ _ hfl
  have hw:=hop i o (by omega) ho y w hI.grown (fun j hj=>hI.facts j (hD j hj)) (fun a' w'=>∃v,a'=a.put o.dst v∧R w w'∧Φ i v w')
  rw[hcan] at hw
  have hlen':((List.range ops.size).filter fun j=>!(jD.setIfInBounds i true).getD j true).length≤fuel:=by
   have:((List.range ops.size).filter fun j=>!(jD.setIfInBounds i true).getD j true).length < ((List.range ops.size).filter fun j=>!jD.getD j true).length:=by
    refine KB _ i (fun j hj=>?_) (List.mem_range.2 hilt) (by rw[hun];rfl) ?_
    ·by_cases hij:i=j
     ·subst hij
      have h2:i < jD.size:=by rw[hI.size];exact hilt
      simp[h2] at hj
     ·rw[getD_set_ne true hij] at hj;exact hj
    ·have h2:i < jD.size:=by rw[hI.size];exact hilt
     simp[h2]
   omega
  have hnext:∀v w',R w w'→Φ i v w'→wpAny P .any ops Q fuel (jD.setIfInBounds i true) (a.put o.dst v) w':=by
   intro v w' hr hφ
   have h2:i < jD.size:=by rw[hI.size];exact hilt
   refine ih _ _ _ (fun k=>if k=i then v else y k) hlen' ⟨by simp[hI.size],?_,hRt hI.grown hr,?_,?_,?_⟩ ?_ ?_
   ·cases hd:o.dst with
    | none=>
     rw[hI.act]
     show jB y (zJ ops) a0=_
     refine qN _ _ _ _ fun p hp=>?_
     have:=mem_pairsOf.1 (show (p.1,p.2)∈zJ ops from hp)
     have hne:p.2≠i:=fun he=>by rw[he,ho] at this;simp[hd] at this
     simp[hne]
    | some d=>
     rw[hI.act,KA y i v _ a0 d hkeys (mem_pairsOf.2 (by simp[ho,hd]))]
   ·intro j hj
    by_cases hji:j=i
    ·subst hji;simpa using hφ
    ·simp only[hji,if_false]
     rw[getD_set_ne false (Ne.symm hji)] at hj
     exact hst j _ _ _ hr (hI.facts j hj)
   ·intro j d hj hdst
    have hji:j≠i:=fun he=>by subst he;simp[h2] at hj
    simp only[hji,if_false]
    rw[getD_set_ne true (Ne.symm hji)] at hj
    exact hI.open_ j d hj hdst
   ·intro j hj k hk
    by_cases hji:j=i
    ·subst hji;exact getD_set_true (hD k hk)
    ·rw[getD_set_ne false (Ne.symm hji)] at hj
     exact getD_set_true (hI.closed j hj k hk)
   ·intro j oj hoj hj e he hb
    by_cases hji:j=i
    ·subst hji
     rw[ho] at hoj;cases hoj
     exact getD_set_true (hedges e he hb)
    ·rw[getD_set_ne false (Ne.symm hji)] at hj
     exact getD_set_true (hE j oj hoj hj e he hb)
   ·rw[getD_set_ne true hlast];exact hL
  unfold wpOp
  simp only[ho]
  have hw2:=hw (fun v w' hr hφ=>⟨v,rfl,hr,hφ⟩)
  split at hw2
  ·rename_i hwa
   rw[if_pos hwa]
   refine .inl ?_
   have h3:o.wp P a w (wpAny P .any ops Q fuel (jD.setIfInBounds i true)) (fun _ _ _=>False):=
    Oper.wp_mono (fun a' w' ⟨v,he,hr,hφ⟩=>by subst he;exact hnext v w' hr hφ) hw2
   exact wp_exit h3
  ·rename_i hwa
   rw[if_neg hwa]
   obtain⟨v,he,hr,hφ⟩:=hw2
   rw[he]
   exact hnext v w hr hφ
where
 wp_exit {o:Oper} {a:Act} {w:World} {K:Act→World→Prop} {Q:Exit→Act→World→Prop} (h:o.wp P a w K (fun _ _ _=>False)):o.wp P a w K Q:=by
  unfold Oper.wp at *
  generalize (execOp a.eval o).run P w=r at *
  cases r with
  | ok n w'=>
   cases n<;>simp only[Oper.upon] at h⊢
   case enter f args=>
    refine Calls.mono h fun e w'' he=>?_
    cases e with
    | returned v=>exact he
    | panicked c=>exact he.elim
    | outgrown=>obtain⟨_,_,hq⟩:=he;exact hq.elim
   all_goals exact h
  | halt x w'=>cases x<;>simp only[Oper.upon] at h
def qT {α:Type} [Inhabited α]:List α→α
 | []=>default
 | [x]=>x
 | _::y::r=>qT (y::r)
theorem Q8 {α:Type} [Inhabited α]:∀l:List α,qT l=l.getLast?.getD default
 | []=>rfl
 | [x]=>rfl
 | _::y::r=>by rw[qT,Q8 (y::r),List.getLast?_cons_cons]
theorem JM {id:Nat} {a0:Act} {w0:World} {Q:Exit→Act→World→Prop} (R:World→World→Prop) (D:List (List Nat)) (C:List (List (Nat × Nat))) (Φ:List (Value→World→Prop)) (hm:P.follows .mixedOrders=true)
 (hRt:∀{a b c:World},R a b→R b c→R a c) (hrr:∀w,R w w) (hd:R w0 w0.drew) (hchk:(vN ops D C (zJ ops) && rI ops && decide (0 < ops.size))=true) (hst:stL R Φ)
 (j8:Φ.length+1=ops.size)
 (hop:allW P ops R Φ a0 w0 0 ops.toList.dropLast D C)
 (hfin:∀y w,R w0 w→yV y w 0 Φ→∀K:Act→World→Prop,(∀a' w',Q .normal a' w'→K a' w') →
  if Region.wanted (qT ops.toList) (yielded ops (jB y (qT C) a0).tmps) then (qT ops.toList).wp P (jB y (qT C) a0) w K (fun _ _ _=>False) else K ((jB y (qT C) a0).put (qT ops.toList).dst undef) w)
 (hCl:C.length=ops.size):(Code.region id ops true).wp P Q a0 w0:=by
 simp only[Bool.and_eq_true,decide_eq_true_eq] at hchk
 obtain⟨⟨hchk,hsink⟩,hpos⟩:=hchk
 simp only[vN,Bool.and_eq_true,decide_eq_true_eq,List.all_eq_true,List.mem_range] at hchk
 obtain⟨⟨h1,h2⟩,h3⟩:=hchk
 refine wp_region_any hm ?_
 have hwords:=aW (P:=P) (R:=R) (Φ:=Φ) (a0:=a0) (w0:=w0) D C h3
 refine aF (R:=R) (D:=D.toArray) (Φ:=fun j=>Φ.getD j (fun _ _=>True)) (a0:=a0) (w0:=w0) hRt h1 ?_ hrr (fun i o hi ho=>?_) hpos hsink ?_ ops.size _ a0 _ (fun j=>match (ops[j]?).bind (·.dst) with | some d=>a0.tmps.getD d undef | none=>undef) ?_ ⟨by simp,?_,hd,?_,?_,?_⟩ ?_ ?_
 ·intro j v w w' hr hφ
  rcases Nat.lt_or_ge j Φ.length with hj|hj
  ·have e:Φ.getD j (fun _ _=>True)=Φ[j]:=by simp[List.getD_eq_getElem?_getD,hj]
   simp only[e] at hφ⊢
   exact aL Φ hst _ (List.getElem_mem hj) v w w' hr hφ
  ·have e:Φ.getD j (fun _ _=>True)=fun _ _=>True:=by simp[List.getD_eq_getElem?_getD,hj]
   simp only[e]
 ·have hd2:=allW_dropLast D C h3 ops.toList.dropLast 0 D C (by simp) (by simp) (by simp) hop
  have:=vZ _ 0 i o hd2 (by rw[List.getElem?_dropLast];simp;exact⟨by omega,ho⟩)
  simpa using this
 ·intro o ho y w hr hf a ha
  subst ha
  have hl:ops.toList.getLast? = some o:=by rw[List.getLast?_eq_getElem?];simpa using ho
  have hc:qT C=yF ops D.toArray (ops.size - 1):=by
   rw[Q8,← h3 (ops.size - 1) (by omega),List.getLast?_eq_getElem?,List.getD_eq_getElem?_getD,hCl];rfl
  rw[← hc]
  have ho2:qT ops.toList=o:=by rw[Q8,hl];rfl
  rw[← ho2]
  exact hfin y w hr (Z7 Φ 0 (by simp) (fun j h=>hf j (by omega))) _ (fun _ _ h=>h)
 ·exact Nat.le_trans (List.length_filter_le _ _) (by simp)
 ·symm
  have:∀(L:List (Nat × Nat)),(∀p∈L,(ops[p.2]?).bind (·.dst)=some p.1)→jB (fun j=>match (ops[j]?).bind (·.dst) with | some d=>a0.tmps.getD d undef | none=>undef) L a0=a0:=by
   intro L
   induction L with
   | nil=>intro _;rfl
   | cons p L ih=>
    intro h
    obtain⟨d,j⟩:=p
    have hd:=h (d,j) (by simp)
    simp only at hd
    show jB _ L (a0.put (some d) _)=a0
    simp only[hd]
    rw[vM]
    exact ih (fun p hp=>h p (by simp[hp]))
  exact this _ (fun p hp=>mem_pairsOf.1 hp)
 ·intro j hj
  have h:(Array.replicate ops.size false).getD j false=false:=by
   simp[Array.getD]
  rw[h] at hj;cases hj
 ·intro j d _ hdst
  simp only[hdst]
  exact vM a0 d
 ·intro j hj
  have h:(Array.replicate ops.size false).getD j false=false:=by
   simp[Array.getD]
  rw[h] at hj;cases hj
 ·intro j o _ hj
  have h:(Array.replicate ops.size false).getD j false=false:=by
   simp[Array.getD]
  rw[h] at hj;cases hj
 ·have h2:ops.size - 1 < ops.size:=by omega
  simp[Array.getD,h2]
where
 allW_dropLast {R:World→World→Prop} {Φ:List (Value→World→Prop)} {a0:Act} {w0:World} (D0:List (List Nat)) (C0:List (List (Nat × Nat))) (hC:∀i,i < ops.size→C0.getD i []=yF ops D0.toArray i) :
  ∀(l:List Oper) (i:Nat) (D:List (List Nat)) (C:List (List (Nat × Nat))),i+l.length≤ops.size→(∀k,D[k]? = D0[i+k]?)→(∀k,C[k]? = C0[i+k]?)→allW P ops R Φ a0 w0 i l D C →
   JL (YU P ops R D0.toArray (fun j=>Φ.getD j (fun _ _=>True)) a0 w0) i l:=by
  intro l
  induction l with
  | nil=>intros;trivial
  | cons o r ih=>
   intro i D C hl hD hC' h
   match D,C,h with
   | d::ds,c::cs,h=>
    obtain⟨h1,h2⟩:=h
    refine⟨?_,ih (i+1) ds cs (by simp at hl;omega) (fun k=>?_) (fun k=>?_) h2⟩
    ·have hd:D0.toArray.getD i []=d:=by
      have:=hD 0
      simp at this
      simp[Array.getD_eq_getD_getElem?,← this]
     have hc:yF ops D0.toArray i=c:=by
      rw[← hC i (by simp at hl;omega)]
      have:=hC' 0
      simp at this
      simp[List.getD_eq_getElem?_getD,← this]
     intro y w hR hj K hK
     rw[hd] at hj
     rw[hc] at hK⊢
     exact h1 y w hR (QF _ hj) K (fun a' v w' he hr hφ=>by subst he;exact hK v w' hr hφ)
    ·have:=hD (k+1)
     simp at this
     rw[this];congr 1;omega
    ·have:=hC' (k+1)
     simp at this
     rw[this];congr 1;omega
end
theorem KO {b:Bool} {p q:Prop} (hb:b=true) (h:p):if b then p else q:=by rw[if_pos hb];exact h
theorem jL {b:Bool} {p q:Prop} (h:p) (hb:b=true:=by rfl):if b then p else q:=KO hb h
section
variable {P:Program} {ops:Array Oper}
end
section
variable {P:Program} {ops:Array Oper}
end
section
variable {P:Program} {ops:Array Oper}
def zN (jD:Array Bool):List Nat→Nat
 | []=>0
 | m::r=>if jD.getD m false=true then zN jD r+1 else 0
theorem KC (jD:Array Bool):∀ms:List Nat,zN jD ms≤ms.length
 | []=>Nat.le_refl _
 | m::r=>by
  unfold zN
  split
  ·have:=KC jD r;simp;exact this
  ·simp
theorem Z8 {jD:Array Bool}:∀{ms:List Nat} {k m:Nat},ms[k]? = some m→k < zN jD ms→jD.getD m false=true
 | [],k,m,h,_=>by simp at h
 | x::r,0,m,h,hk=>by
  simp at h;subst h
  unfold zN at hk
  split at hk
  ·assumption
  ·omega
 | x::r,k+1,m,h,hk=>by
  unfold zN at hk
  split at hk
  ·exact Z8 (ms:=r) (by simpa using h) (by omega)
  ·omega
theorem vA {jD:Array Bool}:∀{ms:List Nat} {p:Nat},p≤ms.length→(∀k m,k < p→ms[k]? = some m→jD.getD m false=true)→p≤zN jD ms
 | [],p,h,_=>by simp at h;omega
 | x::r,0,_,_=>Nat.zero_le _
 | x::r,p+1,h,hp=>by
  unfold zN
  rw[if_pos (hp 0 x (by omega) rfl)]
  have:=vA (jD:=jD) (ms:=r) (p:=p) (by simpa using h) (fun k m hk hm=>hp (k+1) m (by omega) (by simpa using hm))
  omega
theorem Q9 {jD:Array Bool} {ms:List Nat} {k m:Nat} (hm:ms[k]? = some m) (hu:jD.getD m false=false):zN jD ms≤k:=by
 rcases Nat.lt_or_ge k (zN jD ms) with h|h
 ·have:=Z8 hm h;rw[hu] at this;cases this
 ·exact h
def KP (D:List (List Nat)) (n:Nat):List Nat→Bool
 | []=>true
 | m::r=>decide (m < n) && r.all (fun b=>(D.getD b []).contains m) && KP D n r
theorem vB {D:List (List Nat)} {n:Nat}:∀{ms:List Nat},KP D n ms=true→∀{a b x y:Nat},a < b→ms[a]? = some x→ms[b]? = some y→x∈D.getD y []
 | m::r,h,0,b+1,x,y,_,hx,hy=>by
  simp only[KP,Bool.and_eq_true,List.all_eq_true] at h
  simp at hx hy
  subst hx
  have:=h.1.2 y (List.mem_of_getElem? hy)
  simpa using this
 | m::r,h,a+1,b+1,x,y,hab,hx,hy=>by
  simp only[KP,Bool.and_eq_true] at h
  exact vB (ms:=r) (a:=a) (b:=b) h.2 (by omega) (by simpa using hx) (by simpa using hy)
theorem dF {D:List (List Nat)} {n:Nat}:∀{ms:List Nat},KP D n ms=true→∀{a x:Nat},ms[a]? = some x→x < n
 | m::r,h,0,x,hx=>by
  simp only[KP,Bool.and_eq_true,decide_eq_true_eq] at h
  simp at hx;subst hx;exact h.1.1
 | m::r,h,a+1,x,hx=>by
  simp only[KP,Bool.and_eq_true] at h
  exact dF (ms:=r) h.2 (by simpa using hx)
structure gK (ms:List Nat) (D:List (List Nat)) (i p:Nat):Prop where
 at_:∀k,ms[k]? = some i→p=k
 lo:∀k m,ms[k]? = some m→m∈D.getD i []→k < p
 hi:∀k m,ms[k]? = some m→i∈D.getD m []→p≤k
 le:p≤ms.length
def nQ (ms:List Nat) (W:Nat→World→Prop) (S:Nat→World→World→Prop) (T:Nat→(Nat→Value)→World→World→Prop) (φ:Nat→Value→World→Prop) (i p:Nat) (y:Nat→Value) (v:Value) (w w':World):Prop:=
 (i∈ms→T p y w w'∧W (p+1) w'∧φ (p+1) v w')∧(i∉ms→S p w w'∧φ p v w')
def nT (P:Program) (ops:Array Oper) (ms:List Nat) (W:Nat→World→Prop) (S:Nat→World→World→Prop) (T:Nat→(Nat→Value)→World→World→Prop) (D:List (List Nat)) (Φ:Nat→Nat→Value→World→Prop) (a0:Act) (i:Nat) (o:Oper):Prop:=
 ∀(y:Nat→Value) (w:World) (p:Nat),gK ms D i p→W p w→(∀j∈D.getD i [],Φ j p (y j) w)→∀K:Act→World→Prop,
  (∀v w',nQ ms W S T (Φ i) i p y v w w'→K ((jB y (yF ops D.toArray i) a0).put o.dst v) w') →
  if Region.wanted o (yielded ops (jB y (yF ops D.toArray i) a0).tmps) then o.wp P (jB y (yF ops D.toArray i) a0) w K (fun _ _ _=>False) else K ((jB y (yF ops D.toArray i) a0).put o.dst undef) w
structure InvFP (ops:Array Oper) (ms:List Nat) (W:Nat→World→Prop) (D:Array (List Nat)) (Φ:Nat→Nat→Value→World→Prop) (a0:Act) (jD:Array Bool) (a:Act) (w:World) (y:Nat→Value):Prop where
 size:jD.size=ops.size
 act:a=jB y (zJ ops) a0
 pre:W (zN jD ms) w
 facts:∀j,jD.getD j false=true→Φ j (zN jD ms) (y j) w
 open_:∀j d,jD.getD j true=false→(ops[j]?).bind (·.dst)=some d→a0.put (some d) (y j)=a0
 closed:∀j,jD.getD j false=true→∀k∈D.getD j [],jD.getD k false=true
theorem rJ (D:List (List Nat)) (i:Nat):D.toArray.getD i []=D.getD i []:=by simp[Array.getD_eq_getD_getElem?,List.getD_eq_getElem?_getD]
theorem aG {ms:List Nat} {W:Nat→World→Prop} {S:Nat→World→World→Prop} {T:Nat→(Nat→Value)→World→World→Prop} {Dl:List (List Nat)} {D:Array (List Nat)} (hDl:D=Dl.toArray) {Φ:Nat→Nat→Value→World→Prop} {a0:Act} {Q:Exit→Act→World→Prop}
 (hchk:vK ops D=true) (hch:KP Dl ops.size ms=true) (hSW:∀p w w',S p w w'→W p w→W p w') (hSΦ:∀j p v w w',S p w w'→Φ j p v w→Φ j p v w') (hTΦ:∀j p (y:Nat→Value) w w',T p y w w'→Φ j p (y j) w→Φ j (p+1) (y j) w')
 (hop:∀i o,ops[i]? = some o→nT P ops ms W S T Dl Φ a0 i o)
 (hfin:∀y w,W ms.length w→(∀j,j < ops.size→Φ j ms.length (y j) w)→Q .normal (jB y (zJ ops) a0) w) :
 ∀(fuel:Nat) (jD:Array Bool) (a:Act) (w:World) (y:Nat→Value),((List.range ops.size).filter fun j=>!jD.getD j true).length≤fuel →
  InvFP ops ms W D Φ a0 jD a w y→wpAny P .any ops Q fuel jD a w:=by
 simp only[vK,Bool.and_eq_true,List.all_eq_true,List.mem_range] at hchk
 obtain⟨hkeys,hrows⟩:=hchk
 -- nothing ready: all has been jD
 have q8:∀(jD:Array Bool),jD.size=ops.size→Region.ready .any ops jD=[]→∀j,j < ops.size→jD.getD j false=true:=by
  intro jD hs kQ j
  induction j using Nat.strongRecOn with
  | ind j ih=>
   intro hj
   cases hl:jD.getD j false with
   | true=>rfl
   | false=>
    exfalso
    have hmem:j∈Region.ready .any ops jD:=by
     rw[mem_ready]
     refine⟨by rw[kG (by omega)];exact hl,ops[j],Array.getElem?_eq_getElem hj,fun e he hb=>?_⟩
     have jJ:=hrows j hj
     rw[Array.getElem?_eq_getElem hj] at jJ
     simp only[Bool.and_eq_true,List.all_eq_true,decide_eq_true_eq] at jJ
     have hlt:=jJ.1 e.on (List.mem_map.2 ⟨e,List.mem_filter.2 ⟨by simpa using he,hb⟩,rfl⟩)
     exact ih e.on hlt (by omega)
    rw[kQ] at hmem
    cases hmem
 have hdone:∀(jD:Array Bool) (a:Act) (w:World) (y:Nat→Value),InvFP ops ms W D Φ a0 jD a w y→Region.ready .any ops jD=[]→Q .normal a w:=by
  intro jD a w y hI kQ
  rw[hI.act]
  have hp:zN jD ms=ms.length:=Nat.le_antisymm (KC _ _) (vA (Nat.le_refl _) fun k m hk hm=>q8 jD hI.size kQ m (dF hch hm))
  have hpre:=hI.pre
  rw[hp] at hpre
  refine hfin y w hpre (fun j hj=>?_)
  have:=hI.facts j (q8 jD hI.size kQ j hj)
  rwa [hp] at this
 intro fuel
 induction fuel with
 | zero=>
  intro jD a w y j8 hI
  have kQ:Region.ready .any ops jD=[]:=by
   have h0:((List.range ops.size).filter fun j=>!jD.getD j true)=[]:=List.length_eq_zero_iff.1 (by omega)
   refine List.eq_nil_iff_forall_not_mem.2 fun j hj=>?_
   have hj':=mem_ready.1 hj
   have:j∈((List.range ops.size).filter fun j=>!jD.getD j true):=by
    obtain⟨hl,o,ho,_⟩:=hj'
    exact List.mem_filter.2 ⟨List.mem_range.2 (Array.getElem?_eq_some_iff.1 ho).1,by simp[hl]⟩
   rw[h0] at this
   cases this
  exact⟨kQ,hdone jD a w y hI kQ⟩
 | succ fuel ih=>
  intro jD a w y j8 hI
  refine⟨hdone jD a w y hI,fun i hi=>?_⟩
  obtain⟨hun,o,ho,hedges⟩:=mem_ready.1 hi
  have hilt:i < ops.size:=(Array.getElem?_eq_some_iff.1 ho).1
  have hunf:jD.getD i false=false:=by rw[← kG (by rw[hI.size];exact hilt)];exact hun
  have jJ:=hrows i hilt
  rw[ho] at jJ
  simp only[Bool.and_eq_true,List.all_eq_true,decide_eq_true_eq,List.any_eq_true,Bool.or_eq_true,beq_iff_eq,List.contains_iff_mem] at jJ
  -- what i QE for has been jD
  have hD:∀k∈D.getD i [],jD.getD k false=true:=by
   intro k hk
   obtain⟨e,he,hek⟩:=jJ.2 k hk
   obtain⟨ed,hed,rfl⟩:=List.mem_map.1 he
   obtain⟨hed1,hed2⟩:=List.mem_filter.1 hed
   have hl:=hedges ed (by simpa using hed1) hed2
   rcases hek with rfl|hek
   ·exact hl
   ·exact hI.closed _ hl k hek
  have hcan:jB y (yF ops D i) a0=a:=by
   rw[hI.act]
   refine yS y _ _ a0 hkeys ?_
   rintro ⟨d,j⟩ hq hp
   simp only[Bool.not_eq_false',Bool.or_eq_true,beq_iff_eq] at hp
   have hdst:=mem_pairsOf.1 hq
   refine hI.open_ j d ?_ hdst
   rcases hp with rfl|hw
   ·exact hun
   ·have hjlt:j < jD.size:=by
     rw[hI.size]
     rcases Nat.lt_or_ge j ops.size with h'|h'
     ·exact h'
     ·rw[Array.getElem?_eq_none h'] at hdst;cases hdst
    rw[kG hjlt]
    cases hl:jD.getD j false with
    | false=>rfl
    | true=>
     have:=hI.closed j hl i (by simpa [QE] using hw)
     rw[hunf] at this
     cases this
  have hDe:∀j,D.getD j []=Dl.getD j []:=fun j=>by rw[hDl];exact rJ _ _
  have hle:=KC jD ms
  have hat:∀k,ms[k]? = some i→zN jD ms=k:=fun k hk=>
   Nat.le_antisymm (Q9 hk hunf) (vA (by have:=(List.getElem?_eq_some_iff.1 hk).1;omega) fun a m ha hm=>hD m (by rw[hDe];exact vB hch ha hm hk))
  have hph:gK ms Dl i (zN jD ms):=by
   refine⟨hat,fun k m hm hmi=>?_,fun k m hm hmi=>?_,hle⟩
   ·have hl:=hD m (by rw[hDe];exact hmi)
    have:k+1≤zN jD ms:=vA (by have:=(List.getElem?_eq_some_iff.1 hm).1;omega) fun a q ha hq=>by
     rcases Nat.lt_or_ge a k with h|h
     ·exact hI.closed m hl q (by rw[hDe];exact vB hch h hq hm)
     ·have:a=k:=by omega
      subst this
      rw[hm] at hq;cases hq;exact hl
    omega
   ·refine Q9 hm ?_
    cases hl:jD.getD m false with
    | false=>rfl
    | true=>
     have:=hI.closed m hl i (by rw[hDe];exact hmi)
     rw[hunf] at this;cases this
  have hw:=hop i o ho y w _ hph hI.pre (fun j hj=>hI.facts j (hD j (by rw[hDe];exact hj))) (fun a' w'=>∃v,a'=a.put o.dst v∧nQ ms W S T (Φ i) i (zN jD ms) y v w w')
  rw[← hDl,hcan] at hw
  have hlen':((List.range ops.size).filter fun j=>!(jD.setIfInBounds i true).getD j true).length≤fuel:=by
   have:((List.range ops.size).filter fun j=>!(jD.setIfInBounds i true).getD j true).length < ((List.range ops.size).filter fun j=>!jD.getD j true).length:=by
    refine KB _ i (fun j hj=>?_) (List.mem_range.2 hilt) (by rw[hun];rfl) ?_
    ·by_cases hij:i=j
     ·subst hij
      have h2:i < jD.size:=by rw[hI.size];exact hilt
      simp[h2] at hj
     ·rw[getD_set_ne true hij] at hj;exact hj
    ·have h2:i < jD.size:=by rw[hI.size];exact hilt
     simp[h2]
   omega
  have hnext:∀v w',nQ ms W S T (Φ i) i (zN jD ms) y v w w'→wpAny P .any ops Q fuel (jD.setIfInBounds i true) (a.put o.dst v) w':=by
   intro v w' hr0
   have h2:i < jD.size:=by rw[hI.size];exact hilt
   have hset:∀j,(jD.setIfInBounds i true).getD j false=true→j≠i→jD.getD j false=true:=fun j hj hne=>by rwa [getD_set_ne false (Ne.symm hne)] at hj
   have hsub:∀j,jD.getD j false=true→(jD.setIfInBounds i true).getD j false=true:=fun j hj=>getD_set_true hj
   -- the phase behind the step
   have hphase:W (zN (jD.setIfInBounds i true) ms) w'∧(∀j,jD.getD j false=true→Φ j (zN (jD.setIfInBounds i true) ms) (y j) w')∧Φ i (zN (jD.setIfInBounds i true) ms) v w':=by
    by_cases hmem:i∈ms
    ·obtain⟨k,hk⟩:=List.getElem?_of_mem hmem
     have hpk:=hat k hk
     obtain⟨hT,hW,hφ⟩:=hr0.1 hmem
     have hn:zN (jD.setIfInBounds i true) ms=zN jD ms+1:=by
      refine Nat.le_antisymm ?_ (vA (by have:=(List.getElem?_eq_some_iff.1 hk).1;omega) fun a m ha hm=>?_)
      ·rcases Nat.lt_or_ge (k+1) ms.length with hl|hl
       ·rw[hpk]
        refine Q9 (List.getElem?_eq_getElem hl) ?_
        have hne:ms[k+1]≠i:=fun e=>by
         have h3:=vB hch (Nat.lt_succ_self k) hk (List.getElem?_eq_getElem hl)
         rw[e] at h3
         have h4:=hD i (by rw[hDe];exact h3)
         rw[hunf] at h4;cases h4
        rw[getD_set_ne false (Ne.symm hne)]
        cases hl2:jD.getD ms[k+1] false with
        | false=>rfl
        | true=>
         have h4:=hI.closed _ hl2 i (by rw[hDe];exact vB hch (Nat.lt_succ_self k) hk (List.getElem?_eq_getElem hl))
         rw[hunf] at h4;cases h4
       ·have:=KC (jD.setIfInBounds i true) ms;omega
      ·rcases Nat.lt_or_ge a k with h|h
       ·exact hsub m (hD m (by rw[hDe];exact vB hch h hm hk))
       ·have:a=k:=by omega
        subst this
        rw[hk] at hm;cases hm
        simp[h2]
     rw[hn]
     exact⟨hW,fun j hj=>hTΦ _ _ _ _ _ hT (hI.facts j hj),hφ⟩
    ·obtain⟨hS,hφ⟩:=hr0.2 hmem
     have hn:zN (jD.setIfInBounds i true) ms=zN jD ms:=by
      refine Nat.le_antisymm ?_ (vA hle fun a m ha hm=>hsub m (Z8 hm ha))
      refine vA (KC _ _) fun a m ha hm=>hset m (Z8 hm ha) (fun e=>hmem (by rw[← e];exact List.mem_of_getElem? hm))
     rw[hn]
     exact⟨hSW _ _ _ hS hI.pre,fun j hj=>hSΦ _ _ _ _ _ hS (hI.facts j hj),hφ⟩
   refine ih _ _ _ (fun k=>if k=i then v else y k) hlen' ⟨by simp[hI.size],?_,hphase.1,?_,?_,?_⟩
   ·cases hd:o.dst with
    | none=>
     rw[hI.act]
     show jB y (zJ ops) a0=_
     refine qN _ _ _ _ fun p hp=>?_
     have:=mem_pairsOf.1 (show (p.1,p.2)∈zJ ops from hp)
     have hne:p.2≠i:=fun he=>by rw[he,ho] at this;simp[hd] at this
     simp[hne]
    | some d=>
     rw[hI.act,KA y i v _ a0 d hkeys (mem_pairsOf.2 (by simp[ho,hd]))]
   ·intro j hj
    by_cases hji:j=i
    ·subst hji
     rw[if_pos rfl]
     exact hphase.2.2
    ·rw[if_neg hji]
     exact hphase.2.1 j (hset j hj hji)
   ·intro j d hj hdst
    have hji:j≠i:=fun he=>by subst he;simp[h2] at hj
    simp only[hji,if_false]
    rw[getD_set_ne true (Ne.symm hji)] at hj
    exact hI.open_ j d hj hdst
   ·intro j hj k hk
    by_cases hji:j=i
    ·subst hji;exact getD_set_true (hD k hk)
    ·exact getD_set_true (hI.closed j (hset j hj hji) k hk)
  unfold wpOp
  simp only[ho]
  have hw2:=hw (fun v w' hr=>⟨v,rfl,hr⟩)
  split at hw2
  ·rename_i hwa
   rw[if_pos hwa]
   refine .inl ?_
   have h3:o.wp P a w (wpAny P .any ops Q fuel (jD.setIfInBounds i true)) (fun _ _ _=>False):=
    Oper.wp_mono (fun a' w' ⟨v,he,hr⟩=>by subst he;exact hnext v w' hr) hw2
   exact wp_exit h3
  ·rename_i hwa
   rw[if_neg hwa]
   obtain⟨v,he,hr⟩:=hw2
   rw[he]
   exact hnext v w hr
where
 wp_exit {o:Oper} {a:Act} {w:World} {K:Act→World→Prop} {Q:Exit→Act→World→Prop} (h:o.wp P a w K (fun _ _ _=>False)):o.wp P a w K Q:=by
  unfold Oper.wp at *
  generalize (execOp a.eval o).run P w=r at *
  cases r with
  | ok n w'=>
   cases n<;>simp only[Oper.upon] at h⊢
   case enter f args=>
    refine Calls.mono h fun e w'' he=>?_
    cases e with
    | returned v=>exact he
    | panicked c=>exact he.elim
    | outgrown=>obtain⟨_,_,hq⟩:=he;exact hq.elim
   all_goals exact h
  | halt x w'=>cases x<;>simp only[Oper.upon] at h
def jV (Φ:List (Nat→Value→World→Prop)) (y:Nat→Value) (w:World) (p:Nat):List Nat→Prop
 | []=>True
 | j::r=>Φ.getD j (fun _ _ _=>True) p (y j) w∧jV Φ y w p r
theorem gL {Φ:List (Nat→Value→World→Prop)} {y:Nat→Value} {w:World} {p:Nat}:∀(d:List Nat),(∀j∈d,Φ.getD j (fun _ _ _=>True) p (y j) w)→jV Φ y w p d
 | [],_=>trivial
 | j::r,h=>⟨h j (by simp),gL r (fun k hk=>h k (by simp[hk]))⟩
def zB (y:Nat→Value) (w:World) (p:Nat):Nat→List (Nat→Value→World→Prop)→Prop
 | _,[]=>True
 | i,φ::r=>φ p (y i) w∧zB y w p (i+1) r
theorem dG {Φ0:List (Nat→Value→World→Prop)} {y:Nat→Value} {w:World} {p:Nat}:∀(Φ:List (Nat→Value→World→Prop)) (i:Nat),(∀k,Φ[k]? = Φ0[i+k]?)→(∀j,j < i+Φ.length→Φ0.getD j (fun _ _ _=>True) p (y j) w)→zB y w p i Φ
 | [],_,_,_=>trivial
 | φ::r,i,h,hj=>by
  refine⟨?_,dG r (i+1) (fun k=>?_) (fun j hj'=>hj j (by simp;omega))⟩
  ·have h0:=hj i (by simp)
   have:=h 0
   simp at this
   simpa [List.getD_eq_getElem?_getD,← this] using h0
  ·have:=h (k+1)
   simp at this
   rw[this];congr 1;omega
structure lX (P:Program) (ops:Array Oper) (ms:List Nat) (W:Nat→World→Prop) (S:Nat→World→World→Prop) (T:Nat→(Nat→Value)→World→World→Prop) (D:List (List Nat)) (Φ:List (Nat→Value→World→Prop)) (a0:Act) (i:Nat) (o:Oper) (d:List Nat) (c:List (Nat × Nat)):Prop where
 out:∀(y:Nat→Value) (w:World) (p:Nat),gK ms D i p→W p w→jV Φ y w p d→∀K:Act→World→Prop,
  (∀a' v w',a'=(jB y c a0).put o.dst v→nQ ms W S T (Φ.getD i (fun _ _ _=>True)) i p y v w w'→K a' w') →
  if Region.wanted o (yielded ops (jB y c a0).tmps) then o.wp P (jB y c a0) w K (fun _ _ _=>False) else K ((jB y c a0).put o.dst undef) w
theorem jN {ms:List Nat} {W:Nat→World→Prop} {S:Nat→World→World→Prop} {T:Nat→(Nat→Value)→World→World→Prop} {D:List (List Nat)} {Φ:List (Nat→Value→World→Prop)} {a0:Act} {i:Nat} {o:Oper} {d:List Nat} {c:List (Nat × Nat)} (k:Nat) (hk:ms[k]? = some i)
 (h:∀(y:Nat→Value) (w:World),W k w→jV Φ y w k d→∀K:Act→World→Prop,(∀a' v w',a'=(jB y c a0).put o.dst v→T k y w w'→W (k+1) w'→Φ.getD i (fun _ _ _=>True) (k+1) v w'→K a' w') →
  if Region.wanted o (yielded ops (jB y c a0).tmps) then o.wp P (jB y c a0) w K (fun _ _ _=>False) else K ((jB y c a0).put o.dst undef) w):lX P ops ms W S T D Φ a0 i o d c:=by
 refine⟨?_⟩
 intro y w p hp hW hd K hK
 have e:=hp.at_ k hk
 subst e
 exact h y w hW hd K (fun a' v w' he hT hW' hφ=>hK a' v w' he ⟨fun _=>⟨hT,hW',hφ⟩,fun hn=>absurd (List.mem_of_getElem? hk) hn⟩)
theorem aX {ms:List Nat} {W:Nat→World→Prop} {S:Nat→World→World→Prop} {T:Nat→(Nat→Value)→World→World→Prop} {D:List (List Nat)} {Φ:List (Nat→Value→World→Prop)} {a0:Act} {i:Nat} {o:Oper} {d:List Nat} {c:List (Nat × Nat)} (lo hi:Nat) (hn:ms.contains i=false)
 (hlo:(decide (lo=0) || (D.getD i []).contains (ms.getD (lo - 1) 0) && decide (lo - 1 < ms.length))=true) (hhi:(decide (hi=ms.length) || (D.getD (ms.getD hi 0) []).contains i && decide (hi < ms.length))=true)
 (h:∀(y:Nat→Value) (w:World) (p:Nat),lo≤p→p≤hi→W p w→jV Φ y w p d→∀K:Act→World→Prop,(∀a' v w',a'=(jB y c a0).put o.dst v→S p w w'→Φ.getD i (fun _ _ _=>True) p v w'→K a' w') →
  if Region.wanted o (yielded ops (jB y c a0).tmps) then o.wp P (jB y c a0) w K (fun _ _ _=>False) else K ((jB y c a0).put o.dst undef) w):lX P ops ms W S T D Φ a0 i o d c:=by
 refine⟨?_⟩
 intro y w p hp hW hd K hK
 have hni:i∉ms:=by simpa using hn
 refine h y w p ?_ ?_ hW hd K (fun a' v w' he hS hφ=>hK a' v w' he ⟨fun hm=>absurd hm hni,fun _=>⟨hS,hφ⟩⟩)
 ·simp only[Bool.or_eq_true,Bool.and_eq_true,decide_eq_true_eq,List.contains_iff_mem] at hlo
  rcases hlo with h0|⟨h1,h2⟩
  ·omega
  ·have hg:ms[lo - 1]? = some (ms.getD (lo - 1) 0):=by simp[List.getD_eq_getElem?_getD,h2]
   have:=hp.lo _ _ hg h1
   omega
 ·simp only[Bool.or_eq_true,Bool.and_eq_true,decide_eq_true_eq,List.contains_iff_mem] at hhi
  rcases hhi with h0|⟨h1,h2⟩
  ·rw[h0];exact hp.le
  ·have hg:ms[hi]? = some (ms.getD hi 0):=by simp[List.getD_eq_getElem?_getD,h2]
   exact hp.hi _ _ hg h1
def allWP (P:Program) (ops:Array Oper) (ms:List Nat) (W:Nat→World→Prop) (S:Nat→World→World→Prop) (T:Nat→(Nat→Value)→World→World→Prop) (D0:List (List Nat)) (Φ:List (Nat→Value→World→Prop)) (a0:Act):Nat→List Oper→List (List Nat)→List (List (Nat × Nat))→Prop
 | _,[],_,_=>True
 | i,o::r,d::ds,c::cs=>lX P ops ms W S T D0 Φ a0 i o d c∧allWP P ops ms W S T D0 Φ a0 (i+1) r ds cs
 | _,_::_,_,_=>False
theorem oK {ms:List Nat} {W:Nat→World→Prop} {S:Nat→World→World→Prop} {T:Nat→(Nat→Value)→World→World→Prop} {D:List (List Nat)} {Φ:List (Nat→Value→World→Prop)} {a0:Act} {i:Nat} {o:Oper} {d:List Nat} {c:List (Nat × Nat)} (h:∀(y:Nat→Value) (w:World) (p:Nat),0≤p→p≤ms.length→W p w→jV Φ y w p d→∀K:Act→World→Prop,(∀a' v w',a'=(jB y c a0).put o.dst v→S p w w'→Φ.getD i (fun _ _ _=>True) p v w'→K a' w') →
 if Region.wanted o (yielded ops (jB y c a0).tmps) then o.wp P (jB y c a0) w K (fun _ _ _=>False) else K ((jB y c a0).put o.dst undef) w) (hn:ms.contains i=false:=by kernel_rfl):lX P ops ms W S T D Φ a0 i o d c:=aX 0 ms.length hn (by simp) (by simp) h
theorem jH {ms:List Nat} {W:Nat→World→Prop} {S:Nat→World→World→Prop} {T:Nat→(Nat→Value)→World→World→Prop} {D:List (List Nat)} {Φ:List (Nat→Value→World→Prop)} {a0:Act} {i:Nat} {o:Oper} {d:List Nat} {c:List (Nat × Nat)} (lo hi:Nat) (h:∀(y:Nat→Value) (w:World) (p:Nat),lo≤p→p≤hi→W p w→jV Φ y w p d→∀K:Act→World→Prop,(∀a' v w',a'=(jB y c a0).put o.dst v→S p w w'→Φ.getD i (fun _ _ _=>True) p v w'→K a' w') →
 if Region.wanted o (yielded ops (jB y c a0).tmps) then o.wp P (jB y c a0) w K (fun _ _ _=>False) else K ((jB y c a0).put o.dst undef) w) (hn:ms.contains i=false:=by kernel_rfl) (hlo:(decide (lo=0) || (D.getD i []).contains (ms.getD (lo - 1) 0) && decide (lo - 1 < ms.length))=true:=by kernel_rfl) (hhi:(decide (hi=ms.length) || (D.getD (ms.getD hi 0) []).contains i && decide (hi < ms.length))=true:=by kernel_rfl):lX P ops ms W S T D Φ a0 i o d c:=aX lo hi hn hlo hhi h
theorem gM {ms:List Nat} {W:Nat→World→Prop} {S:Nat→World→World→Prop} {T:Nat→(Nat→Value)→World→World→Prop} {Φ:List (Nat→Value→World→Prop)} {a0:Act} (D0:List (List Nat)) (C0:List (List (Nat × Nat))) (hC:∀i,i < ops.size→C0.getD i []=yF ops D0.toArray i) :
 ∀(l:List Oper) (i:Nat) (D:List (List Nat)) (C:List (List (Nat × Nat))),i+l.length=ops.size→(∀k,D[k]? = D0[i+k]?)→(∀k,C[k]? = C0[i+k]?)→allWP P ops ms W S T D0 Φ a0 i l D C →
  JL (nT P ops ms W S T D0 (fun j=>Φ.getD j (fun _ _ _=>True)) a0) i l:=by
 intro l
 induction l with
 | nil=>intros;trivial
 | cons o r ih=>
  intro i D C hl hD hC' h
  match D,C,h with
  | d::ds,c::cs,h=>
   obtain⟨h1,h2⟩:=h
   refine⟨?_,ih (i+1) ds cs (by simp at hl;omega) (fun k=>?_) (fun k=>?_) h2⟩
   ·have hd:D0.getD i []=d:=by
     have:=hD 0
     simp at this
     simp[List.getD_eq_getElem?_getD,← this]
    have hc:yF ops D0.toArray i=c:=by
     rw[← hC i (by simp at hl;omega)]
     have:=hC' 0
     simp at this
     simp[List.getD_eq_getElem?_getD,← this]
    intro y w p hp hW hj K hK
    rw[hd] at hj
    rw[hc] at hK⊢
    exact h1.out y w p hp hW (gL _ hj) K (fun a' v w' he hs=>by subst he;exact hK v w' hs)
   ·have:=hD (k+1)
    simp at this
    rw[this];congr 1;omega
   ·have:=hC' (k+1)
    simp at this
    rw[this];congr 1;omega
def stP (S:Nat→World→World→Prop) (T:Nat→(Nat→Value)→World→World→Prop):Nat→List (Nat→Value→World→Prop)→Prop
 | _,[]=>True
 | j,φ::r=>((∀p v w w',S p w w'→φ p v w→φ p v w')∧∀p v w w',(∃y:Nat→Value,y j=v∧T p y w w')→φ p v w→φ (p+1) v w')∧stP S T (j+1) r
theorem fF {S:Nat→World→World→Prop} {T:Nat→(Nat→Value)→World→World→Prop}:∀{Φ:List (Nat→Value→World→Prop)} (i:Nat),stP S T i Φ→∀j,(∀p v w w',S p w w'→Φ.getD j (fun _ _ _=>True) p v w→Φ.getD j (fun _ _ _=>True) p v w')∧∀p v w w',(∃y:Nat→Value,y (i+j)=v∧T p y w w')→Φ.getD j (fun _ _ _=>True) p v w→Φ.getD j (fun _ _ _=>True) (p+1) v w'
 | [],_,_,j=>⟨fun _ _ _ _ _ _=>trivial,fun _ _ _ _ _ _=>trivial⟩
 | φ::r,_,h,0=>h.1
 | φ::r,i,h,j+1=>by
  have:=fF (Φ:=r) (i+1) h.2 j
  rw[show i+1+j=i+(j+1) by omega] at this
  exact this
theorem q9 {S T0:Nat→World→World→Prop} {φ:Nat→Value→World→Prop} {j:Nat} (h:(∀p v w w',S p w w'→φ p v w→φ p v w')∧∀p v w w',T0 p w w'→φ p v w→φ (p+1) v w') :
 (∀p v w w',S p w w'→φ p v w→φ p v w')∧∀p v w w',(∃y:Nat→Value,y j=v∧(fun p (_:Nat→Value)=>T0 p) p y w w')→φ p v w→φ (p+1) v w':=
 ⟨h.1,fun p v w w' ⟨_,_,hT⟩=>h.2 p v w w' hT⟩
def IsP (u:Value):Nat→Value→World→Prop:=fun _ v _=>v=u
theorem jC {S:Nat→World→World→Prop} {T:Nat→(Nat→Value)→World→World→Prop} {u:Value} {j:Nat}:(∀p v w w',S p w w'→IsP u p v w→IsP u p v w')∧∀p v w w',(∃y:Nat→Value,y j=v∧T p y w w')→IsP u p v w→IsP u (p+1) v w':=⟨fun _ _ _ _ _ h=>h,fun _ _ _ _ _ h=>h⟩
theorem jM {id:Nat} {a0:Act} {w0:World} {Q:Exit→Act→World→Prop} (ms:List Nat) (W:Nat→World→Prop) (S:Nat→World→World→Prop) (T:Nat→(Nat→Value)→World→World→Prop) (D:List (List Nat)) (C:List (List (Nat × Nat))) (F:List (Nat × Nat)) (Φ:List (Nat→Value→World→Prop)) (hm:P.follows .mixedOrders=true)
 (hSW:∀p w w',S p w w'→W p w→W p w') (hW0:W 0 w0.drew) (hchk:vN ops D C F=true) (hch:KP D ops.size ms=true) (hst:stP S T 0 Φ)
 (j8:Φ.length=ops.size)
 (hfin:∀y w,W ms.length w→zB y w ms.length 0 Φ→Q .normal (jB y F a0) w)
 (hop:allWP P ops ms W S T D Φ a0 0 ops.toList D C):(Code.region id ops true).wp P Q a0 w0:=by
 simp only[vN,Bool.and_eq_true,decide_eq_true_eq,List.all_eq_true,List.mem_range] at hchk
 obtain⟨⟨h1,h2⟩,h3⟩:=hchk
 subst h2
 have hops:=gM D C h3 ops.toList 0 D C (by simp) (by simp) (by simp) hop
 refine wp_region_any hm ?_
 refine aG (ms:=ms) (W:=W) (S:=S) (T:=T) (Dl:=D) (D:=D.toArray) rfl (Φ:=fun j=>Φ.getD j (fun _ _ _=>True)) (a0:=a0) h1 hch hSW (fun j p v w w' hs h=>(fF 0 hst j).1 p v w w' hs h) (fun j p y w w' hs h=>(fF 0 hst j).2 p (y j) w w' ⟨y,by rw[Nat.zero_add],hs⟩ h) (fun i o ho=>?_) (fun y w hW hj=>hfin y w hW (dG Φ 0 (by simp) (fun j h=>hj j (by rw[← j8];simpa using h)))) ops.size _ a0 _ (fun j=>match (ops[j]?).bind (·.dst) with | some d=>a0.tmps.getD d undef | none=>undef) ?_ ⟨by simp,?_,?_,?_,?_,?_⟩
 ·have:=vZ _ 0 i o hops (by simpa using ho)
  simpa using this
 ·exact Nat.le_trans (List.length_filter_le _ _) (by simp)
 ·symm
  have:∀(L:List (Nat × Nat)),(∀p∈L,(ops[p.2]?).bind (·.dst)=some p.1)→jB (fun j=>match (ops[j]?).bind (·.dst) with | some d=>a0.tmps.getD d undef | none=>undef) L a0=a0:=by
   intro L
   induction L with
   | nil=>intro _;rfl
   | cons p L ih=>
    intro h
    obtain⟨d,j⟩:=p
    have hd:=h (d,j) (by simp)
    simp only at hd
    show jB _ L (a0.put (some d) _)=a0
    simp only[hd]
    rw[vM]
    exact ih (fun p hp=>h p (by simp[hp]))
  exact this _ (fun p hp=>mem_pairsOf.1 hp)
 ·have h0:zN (Array.replicate ops.size false) ms=0:=by
   cases ms with
   | nil=>rfl
   | cons m r=>
    have h:(Array.replicate ops.size false).getD m false=false:=by simp[Array.getD]
    unfold zN
    rw[h];rfl
  rw[h0];exact hW0
 ·intro j hj
  have h:(Array.replicate ops.size false).getD j false=false:=by
   simp[Array.getD]
  rw[h] at hj;cases hj
 ·intro j d _ hdst
  simp only[hdst]
  exact vM a0 d
 ·intro j hj
  have h:(Array.replicate ops.size false).getD j false=false:=by
   simp[Array.getD]
  rw[h] at hj;cases hj
end
end Go.Proofs.YtjnpcddbgfmpcaaGreatDoor
