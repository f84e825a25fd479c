/-
  Texts of the proof.
-/
import Derived.Test.YtfbeepkogcmlmaaNormalKnownPAB
import Derived.StillTail
set_option linter.unusedVariables false
set_option linter.unusedSimpArgs false
namespace Go.Proofs.Ytfbeepkogcmlmaa
open Go Go.RowKit
section
variable {P:Program} {ops:Array Oper}
def JO (ops:Array Oper) (n:Nat):Array Bool:=((List.range ops.size).map fun j=>decide (j < n)).toArray
theorem QP {n:Nat} {jE:Array Bool} (hsz:jE.size=ops.size) (hn:n≤ops.size) (h1:∀j,j < n→jE.getD j false=true) (h2:∀j,n≤j→j < ops.size→jE.getD j true=false):jE=JO ops n:=by
 apply Array.ext
 ·simp[JO,hsz]
 ·intro j ha hb
  have hj:j < ops.size:=by omega
  simp only[JO,List.getElem_toArray,List.getElem_map,List.getElem_range]
  rcases Nat.lt_or_ge j n with h|h
  ·have:=h1 j h
   simp[ha] at this
   simp[this,h]
  ·have:=h2 j h hj
   simp[ha] at this
   simp[this];omega
theorem qF {Q':Exit→Act→World→Prop}:∀(l:List Oper) (m k:Nat) (jE:Array Bool) (a:Act) (w:World),(∀j,l[j]? = ops[k+j]?) →
 Region.seqB .any ops l.length k jE=true→wpList P ops Q' l a w→wpAny P .any ops Q' (l.length+m) jE a w
 | [],m,k,jE,a,w,_,hB,h=>by
  have h0:Region.ready .any ops jE=[]:=by simpa [Region.seqB] using hB
  cases m with
  | zero=>exact⟨h0,h⟩
  | succ m=>simp only[List.length_nil,Nat.zero_add];exact⟨fun _=>h,fun i hi=>by rw[h0] at hi;cases hi⟩
 | o::l,m,k,jE,a,w,hl,hB,h=>by
  have h0:ops[k]? = some o:=by simpa using (hl 0).symm
  simp only[List.length_cons,Region.seqB,Bool.and_eq_true,decide_eq_true_eq] at hB
  rw[show (o::l).length+m=(l.length+m)+1 by simp only[List.length_cons];omega]
  refine⟨fun h1=>(by rw[hB.1] at h1;cases h1),fun i hi=>?_⟩
  rw[hB.1] at hi
  have hik:i=k:=by simpa using hi
  subst hik
  have hw:wpOp P ops Q' i (wpList P ops Q' l) a w:=by unfold wpOp;simp only[h0];exact h
  exact wpOp_mono (fun a' w' h'=>qF l m (i+1) _ a' w' (fun j=>by have:=hl (j+1);simpa [Nat.add_assoc,Nat.add_comm 1 j] using this) hB.2 h') hw
theorem aN {R:World→World→Prop} {Φ:List (Value→World→Prop)} {a0:Act} {w0:World} (D0:List (List Nat)) (C0:List (List (Nat × Nat))) (hC:∀i,i < ops.size→C0.getD i []=kT ops D0.toArray i) :
 ∀(l:List Oper) (i:Nat) (D:List (List Nat)) (C:List (List (Nat × Nat))),i+l.length≤ops.size→(∀k,D[k]? = D0[i+k]?)→(∀k,C[k]? = C0[i+k]?)→allW P ops R Φ a0 w0 i l D C →
  yB (vV P ops R D0.toArray (fun j=>Φ.getD j (fun _ _=>True)) a0 w0) i l:=by
 intro l
 induction l with
 | nil=>intros;trivial
 | cons o r ih=>
  intro i D C hl hD hC' h
  match D,C,h with
  | d::ds,c::cs,h=>
   obtain⟨h1,h2⟩:=h
   refine⟨?_,ih (i+1) ds cs (by simp at hl;omega) (fun k=>?_) (fun k=>?_) h2⟩
   ·have hd:D0.toArray.getD i []=d:=by
     have:=hD 0
     simp at this
     simp[Array.getD_eq_getD_getElem?,← this]
    have hc:kT ops D0.toArray i=c:=by
     rw[← hC i (by simp at hl;omega)]
     have:=hC' 0
     simp at this
     simp[List.getD_eq_getElem?_getD,← this]
    intro y w hR hj K hK
    rw[hd] at hj
    rw[hc] at hK⊢
    exact h1 y w hR (q8 _ hj) K (fun a' v w' he hr hφ=>by subst he;exact hK v w' hr hφ)
   ·have:=hD (k+1)
    simp at this
    rw[this];congr 1;omega
   ·have:=hC' (k+1)
    simp at this
    rw[this];congr 1;omega
theorem KV {R:World→World→Prop} {D:Array (List Nat)} {Φ:Nat→Value→World→Prop} {a0:Act} {w0:World} {Q:Exit→Act→World→Prop}
 (hRt:∀{a b c:World},R a b→R b c→R a c) (hchk:zJ ops D=true) (hst:∀j v w w',R w w'→Φ j v w→Φ j v w') (hrr:∀w,R w w)
 {n:Nat} (hop:∀i o,i < n→ops[i]? = some o→vV P ops R D Φ a0 w0 i o) (hn:n < ops.size) (hs:Region.sinkB .any ops n=true) (hc:Region.chainB .any ops n=true)
 (hq:Region.seqB .any ops (ops.size - n) n (JO ops n)=true)
 (hfin:∀y w,R w0 w→(∀j,j < n→Φ j (y j) w)→wpList P ops Q (ops.toList.drop n) (jD y ((kF ops).filter fun q=>decide (q.2 < n)) a0) w) :
 ∀(f:Nat) (jE:Array Bool) (a:Act) (w:World) (y:Nat→Value),((List.range n).filter fun j=>!jE.getD j true).length≤f →
  QW ops R D Φ a0 w0 jE a w y→HeadInv .any ops n jE→wpAny P .any ops Q (f+(ops.size - n)) jE a w:=by
 simp only[zJ,Bool.and_eq_true,List.all_eq_true,List.mem_range] at hchk
 obtain⟨kZ,kS⟩:=hchk
 -- nothing ready: all has been jE
 have qH:∀(jE:Array Bool),jE.size=ops.size→Region.ready .any ops jE=[]→∀j,j < ops.size→jE.getD j false=true:=by
  intro jE hs zE j
  induction j using Nat.strongRecOn with
  | ind j ih=>
   intro hj
   cases hl:jE.getD j false with
   | true=>rfl
   | false=>
    exfalso
    have hmem:j∈Region.ready .any ops jE:=by
     rw[mem_ready]
     refine⟨by rw[jV (by omega)];exact hl,ops[j],Array.getElem?_eq_getElem hj,fun e he hb=>?_⟩
     have jP:=kS j hj
     rw[Array.getElem?_eq_getElem hj] at jP
     simp only[Bool.and_eq_true,List.all_eq_true,decide_eq_true_eq] at jP
     have hlt:=jP.1 e.on (List.mem_map.2 ⟨e,List.mem_filter.2 ⟨by simpa using he,hb⟩,rfl⟩)
     exact ih e.on hlt (by omega)
    rw[zE] at hmem
    cases hmem
 -- the head has been jE
 have hdone:∀(m:Nat) (jE:Array Bool) (a:Act) (w:World) (y:Nat→Value),QW ops R D Φ a0 w0 jE a w y→HeadInv .any ops n jE→(∀j,j < n→jE.getD j false=true)→wpAny P .any ops Q (m+(ops.size - n)) jE a w:=by
  intro m jE a w y hI hH hl
  have he:jE=JO ops n:=QP hI.size (by omega) hl hH.tail
  have kV:(ops.toList.drop n).length=ops.size - n:=by simp
  have hw:=hfin y w hI.grown (fun j hj=>hI.facts j (hl j hj))
  rw[k3 y _ _ a0 kZ,← hI.act] at hw
  ·rw[Nat.add_comm,← kV]
   refine qF (ops.toList.drop n) m n jE a w (fun j=>by simp) ?_ hw
   rw[kV,he];exact hq
  ·rintro ⟨d,j⟩ hq' hp
   simp only[decide_eq_false_iff_not] at hp
   have hdst:=mem_pairsOf.1 hq'
   have hj:j < ops.size:=by
    rcases Nat.lt_or_ge j ops.size with h'|h'
    ·exact h'
    ·rw[Array.getElem?_eq_none h'] at hdst;cases hdst
   exact hI.open_ j d (hH.tail j (by omega) hj) hdst
 intro f
 induction f with
 | zero=>
  intro jE a w y kV hI hH
  refine hdone 0 jE a w y hI hH fun j hj=>?_
  cases hl:jE.getD j false with
  | true=>rfl
  | false=>
   exfalso
   have h0:((List.range n).filter fun j=>!jE.getD j true)=[]:=List.length_eq_zero_iff.1 (by omega)
   have:j∈((List.range n).filter fun j=>!jE.getD j true):=List.mem_filter.2 ⟨List.mem_range.2 hj,by rw[jV (by rw[hI.size];omega),hl];rfl⟩
   rw[h0] at this;cases this
 | succ fuel ih=>
  intro jE a w y kV hI hH
  by_cases hh:∀j,j < n→jE.getD j false=true
  ·exact hdone (fuel+1) jE a w y hI hH hh
  obtain⟨j0,hj0,hl0⟩:∃j,j < n∧jE.getD j true=false:=by
   apply Classical.byContradiction
   intro hno
   refine hh fun j hj=>?_
   cases hl:jE.getD j false with
   | true=>rfl
   | false=>exact absurd ⟨j,hj,by rw[jV (by rw[hI.size];omega)];exact hl⟩ hno
  rw[show fuel+1+(ops.size - n)=(fuel+(ops.size - n))+1 by omega]
  refine⟨fun zE=>?_,fun i hi=>?_⟩
  ·have:=qH jE hI.size zE j0 (by omega)
   rw[← jV (by rw[hI.size];omega),hl0] at this;cases this
  have hin:i < n:=by
   rcases Nat.lt_or_ge i n with h|h
   ·exact h
   ·exact absurd hi (tail_waits hs hc hn hH _ j0 rfl hj0 hl0 i h)
  obtain⟨hun,o,ho,hedges⟩:=mem_ready.1 hi
  have hilt:i < ops.size:=(Array.getElem?_eq_some_iff.1 ho).1
  have hunf:jE.getD i false=false:=by rw[← jV (by rw[hI.size];exact hilt)];exact hun
  have jP:=kS i hilt
  rw[ho] at jP
  simp only[Bool.and_eq_true,List.all_eq_true,decide_eq_true_eq,List.any_eq_true,Bool.or_eq_true,beq_iff_eq,List.contains_iff_mem] at jP
  -- what i qN for has been jE
  have hD:∀k∈D.getD i [],jE.getD k false=true:=by
   intro k hk
   obtain⟨e,he,hek⟩:=jP.2 k hk
   obtain⟨ed,hed,rfl⟩:=List.mem_map.1 he
   obtain⟨hed1,hed2⟩:=List.mem_filter.1 hed
   have hl:=hedges ed (by simpa using hed1) hed2
   rcases hek with rfl|hek
   ·exact hl
   ·exact hI.closed _ hl k hek
  have hcan:jD y (kT ops D i) a0=a:=by
   rw[hI.act]
   refine k3 y _ _ a0 kZ ?_
   rintro ⟨d,j⟩ hq hp
   simp only[Bool.not_eq_false',Bool.or_eq_true,beq_iff_eq] at hp
   have hdst:=mem_pairsOf.1 hq
   refine hI.open_ j d ?_ hdst
   rcases hp with rfl|hw
   ·exact hun
   ·have hjlt:j < jE.size:=by
     rw[hI.size]
     rcases Nat.lt_or_ge j ops.size with h'|h'
     ·exact h'
     ·rw[Array.getElem?_eq_none h'] at hdst;cases hdst
    rw[jV hjlt]
    cases hl:jE.getD j false with
    | false=>rfl
    | true=>
     have:=hI.closed j hl i (by simpa [qN] using hw)
     rw[hunf] at this
     cases this
  have hw:=hop i o hin ho y w hI.grown (fun j hj=>hI.facts j (hD j hj)) (fun a' w'=>∃v,a'=a.put o.dst v∧R w w'∧Φ i v w')
  rw[hcan] at hw
  have hlen':((List.range n).filter fun j=>!(jE.setIfInBounds i true).getD j true).length≤fuel:=by
   have:((List.range n).filter fun j=>!(jE.setIfInBounds i true).getD j true).length < ((List.range n).filter fun j=>!jE.getD j true).length:=by
    refine yS _ i (fun j hj=>?_) (List.mem_range.2 hin) (by rw[hun];rfl) ?_
    ·by_cases hij:i=j
     ·subst hij
      have h2:i < jE.size:=by rw[hI.size];exact hilt
      simp[h2] at hj
     ·rw[getD_set_ne true hij] at hj;exact hj
    ·have h2:i < jE.size:=by rw[hI.size];exact hilt
     simp[h2]
   omega
  have hnext:∀v w',R w w'→Φ i v w'→wpAny P .any ops Q (fuel+(ops.size - n)) (jE.setIfInBounds i true) (a.put o.dst v) w':=by
   intro v w' hr hφ
   have h2:i < jE.size:=by rw[hI.size];exact hilt
   refine ih _ _ _ (fun k=>if k=i then v else y k) hlen' ⟨by simp[hI.size],?_,hRt hI.grown hr,?_,?_,?_⟩ (hH.set hi hin)
   ·cases hd:o.dst with
    | none=>
     rw[hI.act]
     show jD y (kF ops) a0=_
     refine zN _ _ _ _ fun p hp=>?_
     have:=mem_pairsOf.1 (show (p.1,p.2)∈kF ops from hp)
     have hne:p.2≠i:=fun he=>by rw[he,ho] at this;simp[hd] at this
     simp[hne]
    | some d=>
     rw[hI.act,yR y i v _ a0 d kZ (mem_pairsOf.2 (by simp[ho,hd]))]
   ·intro j hj
    by_cases hji:j=i
    ·subst hji;simpa using hφ
    ·simp only[hji,if_false]
     rw[getD_set_ne false (Ne.symm hji)] at hj
     exact hst j _ _ _ hr (hI.facts j hj)
   ·intro j d hj hdst
    have hji:j≠i:=fun he=>by subst he;simp[h2] at hj
    simp only[hji,if_false]
    rw[getD_set_ne true (Ne.symm hji)] at hj
    exact hI.open_ j d hj hdst
   ·intro j hj k hk
    by_cases hji:j=i
    ·subst hji;exact getD_set_true (hD k hk)
    ·rw[getD_set_ne false (Ne.symm hji)] at hj
     exact getD_set_true (hI.closed j hj k hk)
  unfold wpOp
  simp only[ho]
  have hw2:=hw (fun v w' hr hφ=>⟨v,rfl,hr,hφ⟩)
  split at hw2
  ·rename_i hwa
   rw[if_pos hwa]
   refine .inl ?_
   have h3:o.wp P a w (wpAny P .any ops Q (fuel+(ops.size - n)) (jE.setIfInBounds i true)) (fun _ _ _=>False):=
    Oper.wp_mono (fun a' w' ⟨v,he,hr,hφ⟩=>by subst he;exact hnext v w' hr hφ) hw2
   exact wp_exit h3
  ·rename_i hwa
   rw[if_neg hwa]
   obtain⟨v,he,hr,hφ⟩:=hw2
   rw[he]
   exact hnext v w hr hφ
where
 wp_exit {o:Oper} {a:Act} {w:World} {K:Act→World→Prop} {Q:Exit→Act→World→Prop} (h:o.wp P a w K (fun _ _ _=>False)):o.wp P a w K Q:=by
  unfold Oper.wp at *
  generalize (execOp a.eval o).run P w=r at *
  cases r with
  | ok n w'=>
   cases n<;>simp only[Oper.upon] at h⊢
   case enter f args=>
    refine Calls.mono h fun e w'' he=>?_
    cases e with
    | returned v=>exact he
    | panicked c=>exact he.elim
    | outgrown=>obtain⟨_,_,hq⟩:=he;exact hq.elim
   all_goals exact h
  | halt x w'=>cases x<;>simp only[Oper.upon] at h
theorem qJ {id:Nat} {a0:Act} {w0:World} {Q:Exit→Act→World→Prop} (R:World→World→Prop) (n:Nat) (D:List (List Nat)) (C:List (List (Nat × Nat))) (F:List (Nat × Nat)) (Φ:List (Value→World→Prop)) (hm:P.follows .mixedOrders=true)
 (hRt:∀{a b c:World},R a b→R b c→R a c) (hrr:∀w,R w w) (hd:R w0 w0.drew)
 (hchk:(zS ops D C (kF ops) && decide (F=(kF ops).filter fun q=>decide (q.2 < n)) && decide (n < ops.size) && Region.sinkB .any ops n && Region.chainB .any ops n && Region.seqB .any ops (ops.size - n) n (JO ops n))=true) (hst:stL R Φ)
 (kV:Φ.length=n)
 (hop:allW P ops R Φ a0 w0 0 (ops.toList.take n) D C)
 (hfin:∀y w,R w0 w→zH y w 0 Φ→wpList P ops Q (ops.toList.drop n) (jD y F a0) w):(Code.region id ops true).wp P Q a0 w0:=by
 simp only[Bool.and_eq_true,decide_eq_true_eq] at hchk
 obtain⟨⟨⟨⟨⟨hchk,hF⟩,hn⟩,hs⟩,hc⟩,hq⟩:=hchk
 simp only[zS,Bool.and_eq_true,decide_eq_true_eq,List.all_eq_true,List.mem_range] at hchk
 obtain⟨⟨h1,h2⟩,h3⟩:=hchk
 subst hF
 refine wp_region_any hm ?_
 have hfuel:ops.size=n+(ops.size - n):=by omega
 rw[show wpAny P .any ops Q ops.size=wpAny P .any ops Q (n+(ops.size - n)) by rw[← hfuel]]
 refine KV (R:=R) (D:=D.toArray) (Φ:=fun j=>Φ.getD j (fun _ _=>True)) (a0:=a0) (w0:=w0) hRt h1 ?_ hrr (n:=n) (fun i o hi ho=>?_) hn hs hc hq (fun y w hr hf=>hfin y w hr (qO Φ 0 (by simp) (fun j h=>hf j (by omega)))) n _ a0 _ (fun j=>match (ops[j]?).bind (·.dst) with | some d=>a0.tmps.getD d undef | none=>undef) ?_ ⟨by simp,?_,hd,?_,?_,?_⟩ ⟨by simp,fun j oj _ hl=>(by rw[getD_replicate_false] at hl;cases hl),fun t _ ht=>getD_in (by simpa using ht) (getD_replicate_false _ _)⟩
 ·intro j v w w' hr hφ
  rcases Nat.lt_or_ge j Φ.length with hj|hj
  ·have e:Φ.getD j (fun _ _=>True)=Φ[j]:=by simp[List.getD_eq_getElem?_getD,hj]
   simp only[e] at hφ⊢
   exact JF Φ hst _ (List.getElem_mem hj) v w w' hr hφ
  ·have e:Φ.getD j (fun _ _=>True)=fun _ _=>True:=by simp[List.getD_eq_getElem?_getD,hj]
   simp only[e]
 ·have hd2:=aN D C h3 (ops.toList.take n) 0 D C (by simp;omega) (by simp) (by simp) hop
  have:=yA _ 0 i o hd2 (by rw[List.getElem?_take];simp[hi];simpa using ho)
  simpa using this
 ·exact Nat.le_trans (List.length_filter_le _ _) (by simp)
 ·symm
  have:∀(L:List (Nat × Nat)),(∀p∈L,(ops[p.2]?).bind (·.dst)=some p.1)→jD (fun j=>match (ops[j]?).bind (·.dst) with | some d=>a0.tmps.getD d undef | none=>undef) L a0=a0:=by
   intro L
   induction L with
   | nil=>intro _;rfl
   | cons p L ih=>
    intro h
    obtain⟨d,j⟩:=p
    have hd:=h (d,j) (by simp)
    simp only at hd
    show jD _ L (a0.put (some d) _)=a0
    simp only[hd]
    rw[zR]
    exact ih (fun p hp=>h p (by simp[hp]))
  exact this _ (fun p hp=>mem_pairsOf.1 hp)
 ·intro j hj
  rw[getD_replicate_false] at hj;cases hj
 ·intro j d _ hdst
  simp only[hdst]
  exact zR a0 d
 ·intro j hj
  rw[getD_replicate_false] at hj;cases hj
end
section
variable {P:Program} {ops:Array Oper}
def ZQ (q:Option (Value→(Nat→Prop)→World→Prop)) (v:Value) (w w':World):Prop:=match q with | none=>True | some ψ=>∃S:Nat→Prop,ψ v S w'∧∀g,S g→w.heap.size≤g∧g < w'.heap.size
structure Z2 (Ψ:Nat→Option (Value→(Nat→Prop)→World→Prop)) (L:Nat→Prop) (y:Nat→Value) (σ:Nat→Nat→Prop) (w0 w:World):Prop where
 said:∀j,L j→∀ψ,Ψ j=some ψ→ψ (y j) (σ j) w
 bound:∀j,L j→∀g,σ j g→w0.heap.size≤g∧g < w.heap.size
 apart:∀j k,L j→L k→j≠k→∀g,σ j g→¬σ k g
theorem Z2.sub {Ψ:Nat→Option (Value→(Nat→Prop)→World→Prop)} {L L':Nat→Prop} {y:Nat→Value} {σ:Nat→Nat→Prop} {w0 w:World} (h:Z2 Ψ L y σ w0 w) (hs:∀j,L' j→L j):Z2 Ψ L' y σ w0 w:=
 ⟨fun j hj=>h.said j (hs j hj),fun j hj=>h.bound j (hs j hj),fun j k hj hk=>h.apart j k (hs j hj) (hs k hk)⟩
theorem Z2.step {Ψ:Nat→Option (Value→(Nat→Prop)→World→Prop)} {R:World→World→Prop} {L:Nat→Prop} {y:Nat→Value} {σ:Nat→Nat→Prop} {w0 w w':World} (h:Z2 Ψ L y σ w0 w) (hsz:∀a b,R a b→a.heap.size≤b.heap.size) (hsΨ:∀j ψ,Ψ j=some ψ→∀v S w w',R w w'→ψ v S w→ψ v S w')
 (i:Nat) (v:Value) (hg:R w0 w) (hr:R w w') (hse:ZQ (Ψ i) v w w'):∃σ2,Z2 Ψ (fun j=>(L j∧j≠i)∨j=i) (fun k=>if k=i then v else y k) σ2 w0 w':=by
 obtain⟨S,hS,hb⟩:∃S:Nat→Prop,(∀ψ,Ψ i=some ψ→ψ v S w')∧∀g,S g→w.heap.size≤g∧g < w'.heap.size:=by
  cases hq:Ψ i with
  | none=>exact⟨fun _=>False,fun ψ e=>(by cases e),fun g h=>h.elim⟩
  | some ψ=>
   rw[hq] at hse
   obtain⟨S,h1,h2⟩:=hse
   exact⟨S,fun ψ' e=>by cases e;exact h1,h2⟩
 have h1:=hsz _ _ hg
 have h2:=hsz _ _ hr
 refine⟨fun k=>if k=i then S else σ k,fun j hj ψ hψ=>?_,fun j hj g hs=>?_,fun j k hj hk hne g hs=>?_⟩
 ·by_cases hji:j=i
  ·subst hji;simp only[if_true];exact hS ψ hψ
  ·simp only[hji,if_false]
   exact hsΨ j ψ hψ _ _ _ _ hr (h.said j ((hj.resolve_right hji).1) ψ hψ)
 ·by_cases hji:j=i
  ·subst hji;simp only[if_true] at hs;have:=hb g hs;omega
  ·simp only[hji,if_false] at hs;have:=h.bound j ((hj.resolve_right hji).1) g hs;omega
 ·by_cases hji:j=i
  ·by_cases hki:k=i
   ·exact absurd (hji.trans hki.symm) hne
   ·simp only[hji,hki,if_true,if_false] at hs⊢
    intro hk2;have:=h.bound k ((hk.resolve_right hki).1) g hk2;have:=hb g hs;omega
  ·by_cases hki:k=i
   ·simp only[hji,hki,if_true,if_false] at hs⊢
    intro hk2;have:=h.bound j ((hj.resolve_right hji).1) g hs;have:=hb g hk2;omega
   ·simp only[hji,hki,if_false] at hs⊢
    exact h.apart j k ((hj.resolve_right hji).1) ((hk.resolve_right hki).1) hne g hs
def VT (P:Program) (ops:Array Oper) (R:World→World→Prop) (D:Array (List Nat)) (Φ:Nat→Value→World→Prop) (Ψ:Nat→Option (Value→(Nat→Prop)→World→Prop)) (a0:Act) (w0:World) (i:Nat) (o:Oper):Prop:=
 ∀(y:Nat→Value) (w:World),R w0 w→(∀j∈D.getD i [],Φ j (y j) w)→∀K:Act→World→Prop,
  (∀v w',R w w'→Φ i v w'→ZQ (Ψ i) v w w'→K ((jD y (kT ops D i) a0).put o.dst v) w') →
  if Region.wanted o (yielded ops (jD y (kT ops D i) a0).tmps) then o.wp P (jD y (kT ops D i) a0) w K (fun _ _ _=>False) else K ((jD y (kT ops D i) a0).put o.dst undef) w
def wordS (P:Program) (ops:Array Oper) (R:World→World→Prop) (Φ:List (Value→World→Prop)) (Ψ:List (Option (Value→(Nat→Prop)→World→Prop))) (a0:Act) (w0:World) (i:Nat) (o:Oper) (d:List Nat) (c:List (Nat × Nat)):Prop:=
 ∀(y:Nat→Value) (w:World),R w0 w→jM Φ y w d→∀K:Act→World→Prop,
  (∀a' v w',a'=(jD y c a0).put o.dst v→R w w'→Φ.getD i (fun _ _=>True) v w'→ZQ (Ψ.getD i none) v w w'→K a' w') →
  if Region.wanted o (yielded ops (jD y c a0).tmps) then o.wp P (jD y c a0) w K (fun _ _ _=>False) else K ((jD y c a0).put o.dst undef) w
def allWS (P:Program) (ops:Array Oper) (R:World→World→Prop) (Φ:List (Value→World→Prop)) (Ψ:List (Option (Value→(Nat→Prop)→World→Prop))) (a0:Act) (w0:World):Nat→List Oper→List (List Nat)→List (List (Nat × Nat))→Prop
 | _,[],_,_=>True
 | i,o::r,d::ds,c::cs=>wordS P ops R Φ Ψ a0 w0 i o d c∧allWS P ops R Φ Ψ a0 w0 (i+1) r ds cs
 | _,_::_,_,_=>False
def stS (R:World→World→Prop):List (Option (Value→(Nat→Prop)→World→Prop))→Prop
 | []=>True
 | none::r=>stS R r
 | some ψ::r=>(∀v S w w',R w w'→ψ v S w→ψ v S w')∧stS R r
theorem YS {R:World→World→Prop}:∀{Ψ:List (Option (Value→(Nat→Prop)→World→Prop))},stS R Ψ→∀j ψ,Ψ.getD j none=some ψ→∀v S w w',R w w'→ψ v S w→ψ v S w'
 | [],_,j,ψ,h=>by simp at h
 | q::r,hs,0,ψ,h=>by
  simp at h;subst h
  exact hs.1
 | none::r,hs,j+1,ψ,h=>by
  simp only[zq5] at h
  exact YS (Ψ:=r) hs j ψ h
 | some _::r,hs,j+1,ψ,h=>by
  simp only[zq5] at h
  exact YS (Ψ:=r) hs.2 j ψ h
theorem VF {R:World→World→Prop} {Φ:List (Value→World→Prop)} {Ψ:List (Option (Value→(Nat→Prop)→World→Prop))} {a0:Act} {w0:World} (D0:List (List Nat)) (C0:List (List (Nat × Nat))) (hC:∀i,i < ops.size→C0.getD i []=kT ops D0.toArray i) :
 ∀(l:List Oper) (i:Nat) (D:List (List Nat)) (C:List (List (Nat × Nat))),i+l.length≤ops.size→(∀k,D[k]? = D0[i+k]?)→(∀k,C[k]? = C0[i+k]?)→allWS P ops R Φ Ψ a0 w0 i l D C →
  yB (VT P ops R D0.toArray (fun j=>Φ.getD j (fun _ _=>True)) (fun j=>Ψ.getD j none) a0 w0) i l:=by
 intro l
 induction l with
 | nil=>intros;trivial
 | cons o r ih=>
  intro i D C hl hD hC' h
  match D,C,h with
  | d::ds,c::cs,h=>
   obtain⟨h1,h2⟩:=h
   refine⟨?_,ih (i+1) ds cs (by simp at hl;omega) (fun k=>?_) (fun k=>?_) h2⟩
   ·have hd:D0.toArray.getD i []=d:=by
     have:=hD 0
     simp at this
     simp[Array.getD_eq_getD_getElem?,← this]
    have hc:kT ops D0.toArray i=c:=by
     rw[← hC i (by simp at hl;omega)]
     have:=hC' 0
     simp at this
     simp[List.getD_eq_getElem?_getD,← this]
    intro y w hR hj K hK
    rw[hd] at hj
    rw[hc] at hK⊢
    exact h1 y w hR (q8 _ hj) K (fun a' v w' he hr hφ hs=>by subst he;exact hK v w' hr hφ hs)
   ·have:=hD (k+1)
    simp at this
    rw[this];congr 1;omega
   ·have:=hC' (k+1)
    simp at this
    rw[this];congr 1;omega
theorem KW {R:World→World→Prop} {D:Array (List Nat)} {Φ:Nat→Value→World→Prop} {Ψ:Nat→Option (Value→(Nat→Prop)→World→Prop)} {a0:Act} {w0:World} {Q:Exit→Act→World→Prop}
 (hRt:∀{a b c:World},R a b→R b c→R a c) (hchk:zJ ops D=true) (hst:∀j v w w',R w w'→Φ j v w→Φ j v w') (hrr:∀w,R w w) (hsz:∀a b,R a b→a.heap.size≤b.heap.size) (hsΨ:∀j ψ,Ψ j=some ψ→∀v S w w',R w w'→ψ v S w→ψ v S w')
 {n:Nat} (hop:∀i o,i < n→ops[i]? = some o→VT P ops R D Φ Ψ a0 w0 i o) (hn:n < ops.size) (hs:Region.sinkB .any ops n=true) (hc:Region.chainB .any ops n=true)
 (hq:Region.seqB .any ops (ops.size - n) n (JO ops n)=true)
 (hfin:∀y w,R w0 w→(∀j,j < n→Φ j (y j) w)→(∃σ,Z2 Ψ (fun j=>j < n) y σ w0 w)→wpList P ops Q (ops.toList.drop n) (jD y ((kF ops).filter fun q=>decide (q.2 < n)) a0) w) :
 ∀(f:Nat) (jE:Array Bool) (a:Act) (w:World) (y:Nat→Value),((List.range n).filter fun j=>!jE.getD j true).length≤f →
  QW ops R D Φ a0 w0 jE a w y→HeadInv .any ops n jE→(∃σ,Z2 Ψ (fun j=>jE.getD j false=true) y σ w0 w)→wpAny P .any ops Q (f+(ops.size - n)) jE a w:=by
 simp only[zJ,Bool.and_eq_true,List.all_eq_true,List.mem_range] at hchk
 obtain⟨kZ,kS⟩:=hchk
 -- nothing ready: all has been jE
 have qH:∀(jE:Array Bool),jE.size=ops.size→Region.ready .any ops jE=[]→∀j,j < ops.size→jE.getD j false=true:=by
  intro jE hs zE j
  induction j using Nat.strongRecOn with
  | ind j ih=>
   intro hj
   cases hl:jE.getD j false with
   | true=>rfl
   | false=>
    exfalso
    have hmem:j∈Region.ready .any ops jE:=by
     rw[mem_ready]
     refine⟨by rw[jV (by omega)];exact hl,ops[j],Array.getElem?_eq_getElem hj,fun e he hb=>?_⟩
     have jP:=kS j hj
     rw[Array.getElem?_eq_getElem hj] at jP
     simp only[Bool.and_eq_true,List.all_eq_true,decide_eq_true_eq] at jP
     have hlt:=jP.1 e.on (List.mem_map.2 ⟨e,List.mem_filter.2 ⟨by simpa using he,hb⟩,rfl⟩)
     exact ih e.on hlt (by omega)
    rw[zE] at hmem
    cases hmem
 -- the head has been jE
 have hdone:∀(m:Nat) (jE:Array Bool) (a:Act) (w:World) (y:Nat→Value),QW ops R D Φ a0 w0 jE a w y→HeadInv .any ops n jE→(∃σ,Z2 Ψ (fun j=>jE.getD j false=true) y σ w0 w)→(∀j,j < n→jE.getD j false=true)→wpAny P .any ops Q (m+(ops.size - n)) jE a w:=by
  intro m jE a w y hI hH hS hl
  have he:jE=JO ops n:=QP hI.size (by omega) hl hH.tail
  have kV:(ops.toList.drop n).length=ops.size - n:=by simp
  have hw:=hfin y w hI.grown (fun j hj=>hI.facts j (hl j hj)) (hS.imp fun σ h=>h.sub fun j hj=>hl j hj)
  rw[k3 y _ _ a0 kZ,← hI.act] at hw
  ·rw[Nat.add_comm,← kV]
   refine qF (ops.toList.drop n) m n jE a w (fun j=>by simp) ?_ hw
   rw[kV,he];exact hq
  ·rintro ⟨d,j⟩ hq' hp
   simp only[decide_eq_false_iff_not] at hp
   have hdst:=mem_pairsOf.1 hq'
   have hj:j < ops.size:=by
    rcases Nat.lt_or_ge j ops.size with h'|h'
    ·exact h'
    ·rw[Array.getElem?_eq_none h'] at hdst;cases hdst
   exact hI.open_ j d (hH.tail j (by omega) hj) hdst
 intro f
 induction f with
 | zero=>
  intro jE a w y kV hI hH hS
  refine hdone 0 jE a w y hI hH hS fun j hj=>?_
  cases hl:jE.getD j false with
  | true=>rfl
  | false=>
   exfalso
   have h0:((List.range n).filter fun j=>!jE.getD j true)=[]:=List.length_eq_zero_iff.1 (by omega)
   have:j∈((List.range n).filter fun j=>!jE.getD j true):=List.mem_filter.2 ⟨List.mem_range.2 hj,by rw[jV (by rw[hI.size];omega),hl];rfl⟩
   rw[h0] at this;cases this
 | succ fuel ih=>
  intro jE a w y kV hI hH hS
  by_cases hh:∀j,j < n→jE.getD j false=true
  ·exact hdone (fuel+1) jE a w y hI hH hS hh
  obtain⟨j0,hj0,hl0⟩:∃j,j < n∧jE.getD j true=false:=by
   apply Classical.byContradiction
   intro hno
   refine hh fun j hj=>?_
   cases hl:jE.getD j false with
   | true=>rfl
   | false=>exact absurd ⟨j,hj,by rw[jV (by rw[hI.size];omega)];exact hl⟩ hno
  rw[show fuel+1+(ops.size - n)=(fuel+(ops.size - n))+1 by omega]
  refine⟨fun zE=>?_,fun i hi=>?_⟩
  ·have:=qH jE hI.size zE j0 (by omega)
   rw[← jV (by rw[hI.size];omega),hl0] at this;cases this
  have hin:i < n:=by
   rcases Nat.lt_or_ge i n with h|h
   ·exact h
   ·exact absurd hi (tail_waits hs hc hn hH _ j0 rfl hj0 hl0 i h)
  obtain⟨hun,o,ho,hedges⟩:=mem_ready.1 hi
  have hilt:i < ops.size:=(Array.getElem?_eq_some_iff.1 ho).1
  have hunf:jE.getD i false=false:=by rw[← jV (by rw[hI.size];exact hilt)];exact hun
  have jP:=kS i hilt
  rw[ho] at jP
  simp only[Bool.and_eq_true,List.all_eq_true,decide_eq_true_eq,List.any_eq_true,Bool.or_eq_true,beq_iff_eq,List.contains_iff_mem] at jP
  -- what i qN for has been jE
  have hD:∀k∈D.getD i [],jE.getD k false=true:=by
   intro k hk
   obtain⟨e,he,hek⟩:=jP.2 k hk
   obtain⟨ed,hed,rfl⟩:=List.mem_map.1 he
   obtain⟨hed1,hed2⟩:=List.mem_filter.1 hed
   have hl:=hedges ed (by simpa using hed1) hed2
   rcases hek with rfl|hek
   ·exact hl
   ·exact hI.closed _ hl k hek
  have hcan:jD y (kT ops D i) a0=a:=by
   rw[hI.act]
   refine k3 y _ _ a0 kZ ?_
   rintro ⟨d,j⟩ hq hp
   simp only[Bool.not_eq_false',Bool.or_eq_true,beq_iff_eq] at hp
   have hdst:=mem_pairsOf.1 hq
   refine hI.open_ j d ?_ hdst
   rcases hp with rfl|hw
   ·exact hun
   ·have hjlt:j < jE.size:=by
     rw[hI.size]
     rcases Nat.lt_or_ge j ops.size with h'|h'
     ·exact h'
     ·rw[Array.getElem?_eq_none h'] at hdst;cases hdst
    rw[jV hjlt]
    cases hl:jE.getD j false with
    | false=>rfl
    | true=>
     have:=hI.closed j hl i (by simpa [qN] using hw)
     rw[hunf] at this
     cases this
  have hw:=hop i o hin ho y w hI.grown (fun j hj=>hI.facts j (hD j hj)) (fun a' w'=>∃v,a'=a.put o.dst v∧R w w'∧Φ i v w'∧ZQ (Ψ i) v w w')
  rw[hcan] at hw
  have hlen':((List.range n).filter fun j=>!(jE.setIfInBounds i true).getD j true).length≤fuel:=by
   have:((List.range n).filter fun j=>!(jE.setIfInBounds i true).getD j true).length < ((List.range n).filter fun j=>!jE.getD j true).length:=by
    refine yS _ i (fun j hj=>?_) (List.mem_range.2 hin) (by rw[hun];rfl) ?_
    ·by_cases hij:i=j
     ·subst hij
      have h2:i < jE.size:=by rw[hI.size];exact hilt
      simp[h2] at hj
     ·rw[getD_set_ne true hij] at hj;exact hj
    ·have h2:i < jE.size:=by rw[hI.size];exact hilt
     simp[h2]
   omega
  have hnext:∀v w',R w w'→Φ i v w'→ZQ (Ψ i) v w w'→wpAny P .any ops Q (fuel+(ops.size - n)) (jE.setIfInBounds i true) (a.put o.dst v) w':=by
   intro v w' hr hφ hse
   have h2:i < jE.size:=by rw[hI.size];exact hilt
   refine ih _ _ _ (fun k=>if k=i then v else y k) hlen' ⟨by simp[hI.size],?_,hRt hI.grown hr,?_,?_,?_⟩ (hH.set hi hin) ?_
   ·cases hd:o.dst with
    | none=>
     rw[hI.act]
     show jD y (kF ops) a0=_
     refine zN _ _ _ _ fun p hp=>?_
     have:=mem_pairsOf.1 (show (p.1,p.2)∈kF ops from hp)
     have hne:p.2≠i:=fun he=>by rw[he,ho] at this;simp[hd] at this
     simp[hne]
    | some d=>
     rw[hI.act,yR y i v _ a0 d kZ (mem_pairsOf.2 (by simp[ho,hd]))]
   ·intro j hj
    by_cases hji:j=i
    ·subst hji;simpa using hφ
    ·simp only[hji,if_false]
     rw[getD_set_ne false (Ne.symm hji)] at hj
     exact hst j _ _ _ hr (hI.facts j hj)
   ·intro j d hj hdst
    have hji:j≠i:=fun he=>by subst he;simp[h2] at hj
    simp only[hji,if_false]
    rw[getD_set_ne true (Ne.symm hji)] at hj
    exact hI.open_ j d hj hdst
   ·intro j hj k hk
    by_cases hji:j=i
    ·subst hji;exact getD_set_true (hD k hk)
    ·rw[getD_set_ne false (Ne.symm hji)] at hj
     exact getD_set_true (hI.closed j hj k hk)
   ·obtain⟨σ,hσ⟩:=hS
    obtain⟨σ2,h3⟩:=hσ.step hsz hsΨ i v hI.grown hr hse
    exact⟨σ2,h3.sub fun j hj=>by
     by_cases hji:j=i
     ·exact .inr hji
     ·rw[getD_set_ne false (Ne.symm hji)] at hj;exact .inl ⟨hj,hji⟩⟩
  unfold wpOp
  simp only[ho]
  have hw2:=hw (fun v w' hr hφ hse=>⟨v,rfl,hr,hφ,hse⟩)
  split at hw2
  ·rename_i hwa
   rw[if_pos hwa]
   refine .inl ?_
   have h3:o.wp P a w (wpAny P .any ops Q (fuel+(ops.size - n)) (jE.setIfInBounds i true)) (fun _ _ _=>False):=
    Oper.wp_mono (fun a' w' ⟨v,he,hr,hφ,hse⟩=>by subst he;exact hnext v w' hr hφ hse) hw2
   exact wp_exit h3
  ·rename_i hwa
   rw[if_neg hwa]
   obtain⟨v,he,hr,hφ,hse⟩:=hw2
   rw[he]
   exact hnext v w hr hφ hse
where
 wp_exit {o:Oper} {a:Act} {w:World} {K:Act→World→Prop} {Q:Exit→Act→World→Prop} (h:o.wp P a w K (fun _ _ _=>False)):o.wp P a w K Q:=by
  unfold Oper.wp at *
  generalize (execOp a.eval o).run P w=r at *
  cases r with
  | ok n w'=>
   cases n<;>simp only[Oper.upon] at h⊢
   case enter f args=>
    refine Calls.mono h fun e w'' he=>?_
    cases e with
    | returned v=>exact he
    | panicked c=>exact he.elim
    | outgrown=>obtain⟨_,_,hq⟩:=he;exact hq.elim
   all_goals exact h
  | halt x w'=>cases x<;>simp only[Oper.upon] at h
theorem JP {id:Nat} {a0:Act} {w0:World} {Q:Exit→Act→World→Prop} (R:World→World→Prop) (n:Nat) (D:List (List Nat)) (C:List (List (Nat × Nat))) (F:List (Nat × Nat)) (Φ:List (Value→World→Prop)) (Ψ:List (Option (Value→(Nat→Prop)→World→Prop))) (hm:P.follows .mixedOrders=true)
 (hRt:∀{a b c:World},R a b→R b c→R a c) (hrr:∀w,R w w) (hd:R w0 w0.drew)
 (hchk:(zS ops D C (kF ops) && decide (F=(kF ops).filter fun q=>decide (q.2 < n)) && decide (n < ops.size) && Region.sinkB .any ops n && Region.chainB .any ops n && Region.seqB .any ops (ops.size - n) n (JO ops n))=true) (hst:stL R Φ) (hsz:∀a b,R a b→a.heap.size≤b.heap.size) (hsΨ:stS R Ψ)
 (kV:Φ.length=n)
 (hop:allWS P ops R Φ Ψ a0 w0 0 (ops.toList.take n) D C)
 (hfin:∀y w,R w0 w→zH y w 0 Φ→(∃σ,Z2 (fun j=>Ψ.getD j none) (fun j=>j < n) y σ w0 w)→wpList P ops Q (ops.toList.drop n) (jD y F a0) w):(Code.region id ops true).wp P Q a0 w0:=by
 simp only[Bool.and_eq_true,decide_eq_true_eq] at hchk
 obtain⟨⟨⟨⟨⟨hchk,hF⟩,hn⟩,hs⟩,hc⟩,hq⟩:=hchk
 simp only[zS,Bool.and_eq_true,decide_eq_true_eq,List.all_eq_true,List.mem_range] at hchk
 obtain⟨⟨h1,h2⟩,h3⟩:=hchk
 subst hF
 refine wp_region_any hm ?_
 have hfuel:ops.size=n+(ops.size - n):=by omega
 rw[show wpAny P .any ops Q ops.size=wpAny P .any ops Q (n+(ops.size - n)) by rw[← hfuel]]
 refine KW (R:=R) (D:=D.toArray) (Φ:=fun j=>Φ.getD j (fun _ _=>True)) (Ψ:=fun j=>Ψ.getD j none) (a0:=a0) (w0:=w0) hRt h1 ?_ hrr hsz ?_ (n:=n) (fun i o hi ho=>?_) hn hs hc hq (fun y w hr hf hS=>hfin y w hr (qO Φ 0 (by simp) (fun j h=>hf j (by omega))) hS) n _ a0 _ (fun j=>match (ops[j]?).bind (·.dst) with | some d=>a0.tmps.getD d undef | none=>undef) ?_ ⟨by simp,?_,hd,?_,?_,?_⟩ ⟨by simp,fun j oj _ hl=>(by rw[getD_replicate_false] at hl;cases hl),fun t _ ht=>getD_in (by simpa using ht) (getD_replicate_false _ _)⟩ ⟨fun _ _=>False,fun j hl=>(by rw[getD_replicate_false] at hl;cases hl),fun j _ g h=>h.elim,fun j k _ _ _ g h=>h.elim⟩
 ·intro j v w w' hr hφ
  rcases Nat.lt_or_ge j Φ.length with hj|hj
  ·have e:Φ.getD j (fun _ _=>True)=Φ[j]:=by simp[List.getD_eq_getElem?_getD,hj]
   simp only[e] at hφ⊢
   exact JF Φ hst _ (List.getElem_mem hj) v w w' hr hφ
  ·have e:Φ.getD j (fun _ _=>True)=fun _ _=>True:=by simp[List.getD_eq_getElem?_getD,hj]
   simp only[e]
 ·intro j ψ hψ v S w w' hr h
  exact YS hsΨ j ψ hψ v S w w' hr h
 ·have hd2:=VF D C h3 (ops.toList.take n) 0 D C (by simp;omega) (by simp) (by simp) hop
  have:=yA _ 0 i o hd2 (by rw[List.getElem?_take];simp[hi];simpa using ho)
  simpa using this
 ·exact Nat.le_trans (List.length_filter_le _ _) (by simp)
 ·symm
  have:∀(L:List (Nat × Nat)),(∀p∈L,(ops[p.2]?).bind (·.dst)=some p.1)→jD (fun j=>match (ops[j]?).bind (·.dst) with | some d=>a0.tmps.getD d undef | none=>undef) L a0=a0:=by
   intro L
   induction L with
   | nil=>intro _;rfl
   | cons p L ih=>
    intro h
    obtain⟨d,j⟩:=p
    have hd:=h (d,j) (by simp)
    simp only at hd
    show jD _ L (a0.put (some d) _)=a0
    simp only[hd]
    rw[zR]
    exact ih (fun p hp=>h p (by simp[hp]))
  exact this _ (fun p hp=>mem_pairsOf.1 hp)
 ·intro j hj
  rw[getD_replicate_false] at hj;cases hj
 ·intro j d _ hdst
  simp only[hdst]
  exact zR a0 d
 ·intro j hj
  rw[getD_replicate_false] at hj;cases hj
end
end Go.Proofs.Ytfbeepkogcmlmaa
