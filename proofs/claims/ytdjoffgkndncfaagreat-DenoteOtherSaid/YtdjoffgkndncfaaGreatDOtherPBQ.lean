/-Texts-/
import Derived.Test.YtdjoffgkndncfaaGreatDOtherPAA
import Derived.StillTail
set_option linter.unusedVariables false
set_option linter.unusedSimpArgs false
namespace Go.Proofs.YtdjoffgkndncfaaGreat
open Go Go.RowKit
section
variable {P:Program} {ops:Array Oper}
def rO (ops:Array Oper) (n:Nat):Array Bool:=((List.range ops.size).map λj=>decide (j < n)).toArray
theorem M8 {n:Nat} {jH:Array Bool} (hsz:jH.size=ops.size) (hn:n≤ops.size) (h1:∀j,j < n→jH.getD j false=true) (h2:∀j,n≤j→j < ops.size→jH.getD j true=false):jH=rO ops n:=by
 apply Array.ext
 ·simp[rO,hsz]
 intro j ha hb;have hj:j < ops.size:=by omega
 simp only[rO,List.getElem_toArray,List.getElem_map,List.getElem_range];rcases Nat.lt_or_ge j n with h|h
 ·have:=h1 j h;simp[ha] at this;simp[this,h]
 have:=h2 j h hj;simp[ha] at this;simp[this];omega
theorem aV {Q':Exit→Act→World→Prop}:∀(l:List Oper) (m k:Nat) (jH:Array Bool) (a:Act) (w:World),(∀j,l[j]? = ops[k+j]?) →
 Region.seqB .any ops l.length k jH=true→wpList P ops Q' l a w→wpAny P .any ops Q' (l.length+m) jH a w
 | [],m,k,jH,a,w,_,hB,h=>by
  have h0:Region.ready .any ops jH=[]:=by simpa [Region.seqB] using hB
  cases m with
  | zero=>exact⟨h0,h⟩
  | succ m=>simp only[qg,Nat.zero_add];exact⟨λ_=>h,λi hi=>by rw[h0] at hi;cases hi⟩
 | o::l,m,k,jH,a,w,hl,hB,h=>by
  have h0:ops[k]? = some o:=by simpa using (hl 0).symm
  simp only[zz,Region.seqB,zg,zp] at hB;rw[show (o::l).length+m=(l.length+m)+1 by simp only[zz];omega];refine⟨λh1=>(by rw[hB.1] at h1;cases h1),λi hi=>?_⟩;rw[hB.1] at hi;have hik:i=k:=by simpa using hi
  subst hik;have hw:wpOp P ops Q' i (wpList P ops Q' l) a w:=by unfold wpOp;simp only[h0];exact h
  exact wpOp_mono (λa' w' h'=>aV l m (i+1) _ a' w' (λj=>by have:=hl (j+1);simpa [Nat.add_assoc,Nat.add_comm 1 j] using this) hB.2 h') hw
theorem F2 {R:World→World→Prop} {Φ:List (Value→World→Prop)} {a0:Act} {w0:World} (D0:List (List Nat)) (C0:List (List (Nat × Nat))) (hC:∀i,i < ops.size→C0.getD i []=yZ ops D0.toArray i) :
 ∀(l:List Oper) (i:Nat) (D:List (List Nat)) (C:List (List (Nat × Nat))),i+l.length≤ops.size→(∀k,D[k]? = D0[i+k]?)→(∀k,C[k]? = C0[i+k]?)→allW P ops R Φ a0 w0 i l D C →
  K2 (cH P ops R D0.toArray (λj=>Φ.getD j (λ_ _=>True)) a0 w0) i l:=by
 intro l
 induction l with
 | nil=>intros;trivial
 | cons o r ih=>
  intro i D C hl hD hC' h
  match D,C,h with
  | d::ds,c::cs,h=>
   obtain⟨h1,h2⟩:=h;refine⟨?_,ih (i+1) ds cs zp24 (λk=>?_) (λk=>?_) h2⟩
   ·exact zb13
   ·exact zb14
   exact zb15
theorem iT {R:World→World→Prop} {D:Array (List Nat)} {Φ:Nat→Value→World→Prop} {a0:Act} {w0:World} {Q:Exit→Act→World→Prop}
 (hRt:∀{a b c:World},R a b→R b c→R a c) (hchk:KB ops D=true) (hst:∀j v w w',R w w'→Φ j v w→Φ j v w') (hrr:∀w,R w w)
 {n:Nat} (hop:∀i o,i < n→ops[i]? = some o→cH P ops R D Φ a0 w0 i o) (hn:n < ops.size) (hs:Region.sinkB .any ops n=true) (hc:Region.chainB .any ops n=true)
 (hq:Region.seqB .any ops (ops.size - n) n (rO ops n)=true)
 (hfin:∀y w,R w0 w→(∀j,j < n→Φ j (y j) w)→wpList P ops Q (ops.toList.drop n) (jF y ((qU ops).filter λq=>decide (q.2 < n)) a0) w) :
 ∀(f:Nat) (jH:Array Bool) (a:Act) (w:World) (y:Nat→Value),((List.range n).filter λj=>!jH.getD j true).length≤f →
  InvF ops R D Φ a0 w0 jH a w y→HeadInv .any ops n jH→wpAny P .any ops Q (f+(ops.size - n)) jH a w:=by
 simp only[KB,zg,qu,qw] at hchk;obtain⟨vC,yU⟩:=hchk
 -- nothing ready: all has been jH
 have qG:∀(jH:Array Bool),jH.size=ops.size→Region.ready .any ops jH=[]→∀j,j < ops.size→jH.getD j false=true:=by
  intro jH hs zX j
  induction j using Nat.strongRecOn with
  | ind j ih=>
   intro hj
   cases hl:jH.getD j false with
   | true=>rfl
   | false=>
    exfalso
    have hmem:j∈Region.ready .any ops jH:=by
     rw[mem_ready];refine⟨by rw[zU zo];exact hl,ops[j],qx hj,λe he hb=>?_⟩;have jK:=yU j hj;rw[qx hj] at jK;simp only[zg,qu,zp] at jK;have hlt:=jK.1 e.on (qh.2 ⟨e,xh.2 ⟨by simpa using he,hb⟩,rfl⟩);exact ih e.on hlt zo
    rw[zX] at hmem;cases hmem
 -- the head has been jH
 have hdone:∀(m:Nat) (jH:Array Bool) (a:Act) (w:World) (y:Nat→Value),InvF ops R D Φ a0 w0 jH a w y→HeadInv .any ops n jH→(∀j,j < n→jH.getD j false=true)→wpAny P .any ops Q (m+(ops.size - n)) jH a w:=by
  intro m jH a w y hI hH hl;have he:jH=rO ops n:=M8 hI.size zo hl hH.tail;have kE:(ops.toList.drop n).length=ops.size - n:=by simp
  have hw:=hfin y w hI.grown (λj hj=>hI.facts j (hl j hj));rw[vS y _ _ a0 vC,← hI.act] at hw
  ·rw[Nat.add_comm,← kE];refine aV (ops.toList.drop n) m n jH a w (λj=>by simp) ?_ hw;rw[kE,he];exact hq
  rintro ⟨d,j⟩ hq' hp;simp only[decide_eq_false_iff_not] at hp;have hdst:=mem_pairsOf.1 hq'
  have hj:j < ops.size:=by
   rcases Nat.lt_or_ge j ops.size with h'|h'
   ·exact h'
   rw[Array.getElem?_eq_none h'] at hdst;cases hdst
  exact hI.open_ j d (hH.tail j zo hj) hdst
 intro f
 induction f with
 | zero=>
  intro jH a w y kE hI hH;refine hdone 0 jH a w y hI hH λj hj=>?_
  cases hl:jH.getD j false with
  | true=>rfl
  | false=>
   exfalso;have h0:((List.range n).filter λj=>!jH.getD j true)=[]:=List.length_eq_zero_iff.1 zo;have:j∈((List.range n).filter λj=>!jH.getD j true):=xh.2 ⟨qw.2 hj,by rw[zU (by rw[hI.size];omega),hl];rfl⟩;rw[h0] at this;cases this
 | succ fuel ih=>
  intro jH a w y kE hI hH;by_cases hh:∀j,j < n→jH.getD j false=true
  ·exact hdone (fuel+1) jH a w y hI hH hh
  obtain⟨j0,hj0,hl0⟩:∃j,j < n∧jH.getD j true=false:=by
   apply Classical.byContradiction;intro hno;refine hh λj hj=>?_
   cases hl:jH.getD j false with
   | true=>rfl
   | false=>exact absurd ⟨j,hj,by rw[zU (by rw[hI.size];omega)];exact hl⟩ hno
  rw[show fuel+1+(ops.size - n)=(fuel+(ops.size - n))+1 by omega];refine⟨λzX=>?_,λi hi=>?_⟩
  ·have:=qG jH hI.size zX j0 zo;rw[← zU (by rw[hI.size];omega),hl0] at this;cases this
  have hin:i < n:=by
   rcases Nat.lt_or_ge i n with h|h
   ·exact h
   exact absurd hi (tail_waits hs hc hn hH _ j0 rfl hj0 hl0 i h)
  obtain⟨hun,o,ho,hedges⟩:=mem_ready.1 hi;have hilt:i < ops.size:=(zc.1 ho).1;have hunf:jH.getD i false=false:=by rw[← zU zp27];exact hun
  have jK:=yU i hilt;rw[ho] at jK;simp only[zg,qu,zp,List.any_eq_true,qv,xw,List.contains_iff_mem] at jK
  -- what i lD for has been jH
  have hD:∀k∈D.getD i [],jH.getD k false=true:=by
   intro k hk;obtain⟨e,he,hek⟩:=jK.2 k hk;obtain⟨ed,hed,rfl⟩:=qh.1 he;obtain⟨hed1,hed2⟩:=xh.1 hed;have hl:=hedges ed (by simpa using hed1) hed2;rcases hek with rfl|hek
   ·exact hl
   exact hI.closed _ hl k hek
  have hcan:jF y (yZ ops D i) a0=a:=by
   rw[hI.act];refine vS y _ _ a0 vC ?_;rintro ⟨d,j⟩ hq hp;simp only[Bool.not_eq_false',qv,xw] at hp;have hdst:=mem_pairsOf.1 hq;refine hI.open_ j d ?_ hdst;rcases hp with rfl|hw
   ·exact hun
   exact zb0
  have hw:=hop i o hin ho y w hI.grown (λj hj=>hI.facts j (hD j hj)) (λa' w'=>∃v,a'=a.put o.dst v∧R w w'∧Φ i v w');rw[hcan] at hw
  have hlen':((List.range n).filter λj=>!(jH.setIfInBounds i true).getD j true).length≤fuel:=by
   have:((List.range n).filter λj=>!(jH.setIfInBounds i true).getD j true).length < ((List.range n).filter λj=>!jH.getD j true).length:=by
    refine YO _ i (λj hj=>?_) (qw.2 hin) (by rw[hun];rfl) ?_
    ·exact zb1
    exact zb2
   omega
  have hnext:∀v w',R w w'→Φ i v w'→wpAny P .any ops Q (fuel+(ops.size - n)) (jH.setIfInBounds i true) (a.put o.dst v) w':=by
   intro v w' hr hφ;have h2:i < jH.size:=by rw[hI.size];exact hilt
   refine ih _ _ _ (λk=>if k=i then v else y k) hlen' ⟨by simp[hI.size],?_,hRt hI.grown hr,?_,?_,?_⟩ (hH.set hi hin)
   ·exact zb3
   ·exact zb4
   ·exact zb5
   exact zb6
  unfold wpOp;simp only[ho];have hw2:=hw (λv w' hr hφ=>⟨v,rfl,hr,hφ⟩);split at hw2
  ·rename_i hwa;rw[zl hwa];refine .inl ?_
   have h3:o.wp P a w (wpAny P .any ops Q (fuel+(ops.size - n)) (jH.setIfInBounds i true)) (λ_ _ _=>False):=
    Oper.wp_mono (λa' w' ⟨v,he,hr,hφ⟩=>by subst he;exact hnext v w' hr hφ) hw2
   exact wp_exit h3
  exact zb8
where
 wp_exit {o:Oper} {a:Act} {w:World} {K:Act→World→Prop} {Q:Exit→Act→World→Prop} (h:o.wp P a w K (λ_ _ _=>False)):o.wp P a w K Q:=by
  unfold Oper.wp at *;generalize (execOp a.eval o).run P w=r at *
  cases r with
  | ok n w'=>
   cases n<;>simp only[Oper.upon] at h⊢
   case enter f args=>
    refine Calls.mono h λe w'' he=>?_
    cases e with
    | returned v=>exact he
    | panicked c=>exact he.elim
    | outgrown=>obtain⟨_,_,hq⟩:=he;exact hq.elim
   all_goals exact h
  | halt x w'=>cases x<;>simp only[Oper.upon] at h
theorem zM {id:Nat} {a0:Act} {w0:World} {Q:Exit→Act→World→Prop} (R:World→World→Prop) (n:Nat) (D:List (List Nat)) (C:List (List (Nat × Nat))) (F:List (Nat × Nat)) (Φ:List (Value→World→Prop)) (hm:P.follows .mixedOrders=true)
 (hRt:∀{a b c:World},R a b→R b c→R a c) (hrr:∀w,R w w) (hd:R w0 w0.drew)
 (hchk:(KJ ops D C (qU ops) && decide (F=(qU ops).filter λq=>decide (q.2 < n)) && decide (n < ops.size) && Region.sinkB .any ops n && Region.chainB .any ops n && Region.seqB .any ops (ops.size - n) n (rO ops n))=true) (hst:stL R Φ)
 (kE:Φ.length=n)
 (hop:allW P ops R Φ a0 w0 0 (ops.toList.take n) D C)
 (hfin:∀y w,R w0 w→zV y w 0 Φ→wpList P ops Q (ops.toList.drop n) (jF y F a0) w):(Code.region id ops true).wp P Q a0 w0:=by
 simp only[zg,zp] at hchk;obtain⟨⟨⟨⟨⟨hchk,hF⟩,hn⟩,hs⟩,hc⟩,hq⟩:=hchk;simp only[KJ,zg,zp,qu,qw] at hchk;obtain⟨⟨h1,h2⟩,h3⟩:=hchk;subst hF;refine wp_region_any hm ?_;have hfuel:ops.size=n+(ops.size - n):=by omega
 rw[show wpAny P .any ops Q ops.size=wpAny P .any ops Q (n+(ops.size - n)) by rw[← hfuel]];refine iT (R:=R) (D:=D.toArray) (Φ:=λj=>Φ.getD j (λ_ _=>True)) (a0:=a0) (w0:=w0) hRt h1 ?_ hrr (n:=n) (λi o hi ho=>?_) hn hs hc hq (λy w hr hf=>hfin y w hr (aZ Φ 0 zp2 (λj h=>hf j zo))) n _ a0 _ (λj=>match (ops[j]?).bind (·.dst) with | some d=>a0.tmps.getD d undef | none=>undef) ?_ ⟨by simp,?_,hd,?_,?_,?_⟩ ⟨by simp,λj oj _ hl=>(by rw[getD_replicate_false] at hl;cases hl),λt _ ht=>getD_in (by simpa using ht) (getD_replicate_false _ _)⟩
 ·exact zb16
 ·have hd2:=F2 D C h3 (ops.toList.take n) 0 D C zp6 zp2 zp2 hop;have:=K4 _ 0 i o hd2 (by rw[List.getElem?_take];simp[hi];simpa using ho);simpa using this
 ·exact zb9
 ·exact zb10
 ·intro j hj;rw[getD_replicate_false] at hj;cases hj
 ·exact zb12
 intro j hj;rw[getD_replicate_false] at hj;cases hj
end
section
variable {P:Program} {ops:Array Oper}
end
end Go.Proofs.YtdjoffgkndncfaaGreat
