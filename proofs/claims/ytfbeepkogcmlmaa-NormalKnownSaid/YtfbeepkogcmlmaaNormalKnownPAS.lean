/-
  Texts of the proof.
-/
import Derived.Test.YtfbeepkogcmlmaaNormalKnownPAN
import Derived.Deep.DeepAppendRoom
import Derived.Deep.DeepAppendWide
set_option linter.unusedVariables false
set_option linter.unusedSimpArgs false
set_option maxHeartbeats 16000000
set_option maxRecDepth 100000
namespace Go.Proofs.Ytfbeepkogcmlmaa
open Go Go.ChangeShapes Go.WideShapes Go.ChangeAt Go.RowKit Go.Joins Go.Deep
def zP (l:List ByteArray) (i:Nat):ByteArray:=l.getD i ByteArray.empty
theorem vN {l:List ByteArray} {i:Nat} {s:ByteArray} (h:l[i]? = some s):zP l i=s:=by simp[zP,List.getD_eq_getElem?_getD,h]
def JQ (l:List ByteArray) (i:Nat) (X:List Nat):Prop:=X.Perm (List.range i)∧X.Pairwise fun a b=>ltS (zP l a) (zP l b)=true
theorem JQ.lt {l:List ByteArray} {i:Nat} {X:List Nat} (h:JQ l i X) {x:Nat} (hx:x∈X):x < i:=by
 have:=h.1.mem_iff.1 hx;simpa using this
theorem JQ.len {l:List ByteArray} {i:Nat} {X:List Nat} (h:JQ l i X):X.length=i:=by rw[h.1.length_eq];simp
theorem JQ.insert {l:List ByteArray} {i:Nat} {X:List Nat} (h:JQ l i X) (at_:Nat) (ha:at_≤X.length) (h1:∀x∈X.take at_,ltS (zP l x) (zP l i)=true) (h2:∀x,X[at_]? = some x→ltS (zP l x) (zP l i)=false∧¬zP l x=zP l i) :
 JQ l (i+1) (X.take at_++[i]++X.drop at_):=by
 obtain⟨hp,hs⟩:=h
 constructor
 ·rw[List.range_succ]
  have e:(X.take at_++[i]++X.drop at_).Perm (i::(X.take at_++X.drop at_)):=by
   rw[List.append_assoc]
   exact List.perm_middle
  refine e.trans ?_
  rw[List.take_append_drop]
  refine (List.Perm.cons i hp).trans ?_
  have:=List.perm_append_comm (l₁:=List.range i) (l₂:=[i])
  exact this.symm
 ·rw[List.append_assoc,List.pairwise_append]
  have hd:∀y∈X.drop at_,ltS (zP l i) (zP l y)=true:=by
   intro y hy
   cases hdr:X.drop at_ with
   | nil=>rw[hdr] at hy;cases hy
   | cons z r=>
    have hz:X[at_]? = some z:=by
     have:=congrArg (fun q=>q[0]?) hdr
     simpa using this
    obtain⟨q1,q2⟩:=h2 z hz
    have hiz:ltS (zP l i) (zP l z)=true:=by
     cases hc:ltS (zP l i) (zP l z) with
     | true=>rfl
     | false=>exact absurd (vJ q1 hc) q2
    rw[hdr] at hy
    rcases List.mem_cons.1 hy with rfl|hy
    ·exact hiz
    ·have hsd:(X.drop at_).Pairwise fun a b=>ltS (zP l a) (zP l b)=true:=hs.sublist (List.drop_sublist _ _)
     rw[hdr] at hsd
     exact yX hiz (List.rel_of_pairwise_cons hsd hy)
  refine⟨hs.sublist (List.take_sublist _ _),?_,?_⟩
  ·simp only[List.singleton_append,List.pairwise_cons]
   exact⟨hd,hs.sublist (List.drop_sublist _ _)⟩
  ·intro x hx y hy
   rcases List.mem_append.1 hy with hy|hy
   ·simp at hy;subst hy;exact h1 x hx
   ·exact yX (h1 x hx) (hd y hy)
theorem JQ.done {l:List ByteArray} {X:List Nat} (h:JQ l l.length X):l.Nodup∧QK l=(X.map fun (x:Nat)=>(x:Int),0):=by
 obtain⟨hp,hs⟩:=h
 have hlt:∀x∈X,x < l.length:=fun x hx=>by have:=hp.mem_iff.1 hx;simpa using this
 have hmap:(X.map fun x=>zP l x).Perm l:=by
  refine (hp.map _).trans ?_
  have:(List.range l.length).map (fun x=>zP l x)=l:=by
   apply List.ext_getElem (by simp)
   intro i h1 h2
   simp[zP,List.getD_eq_getElem?_getD,h2]
  rw[this]
 have hnd:l.Nodup:=by
  refine hmap.nodup_iff.1 ?_
  refine List.Pairwise.map _ (fun a b hab e=>?_) hs
  rw[e,qE] at hab;cases hab
 refine⟨hnd,?_⟩
 unfold QK
 rw[if_pos hnd]
 have hz:(X.map fun x=>(zP l x,x)).Perm (l.zip (List.range l.length)):=by
  refine (hp.map _).trans ?_
  have:(List.range l.length).map (fun x=>(zP l x,x))=l.zip (List.range l.length):=by
   apply List.ext_getElem (by simp)
   intro i h1 h2
   have hi:i < l.length:=by simpa using h1
   simp[zP,List.getD_eq_getElem?_getD,hi]
  rw[this]
 have hstr:(X.map fun x=>(zP l x,x)).Pairwise (fun a b=>ltS a.1 b.1=true):=List.Pairwise.map _ (fun a b h=>h) hs
 have hsr:=qV (l.zip (List.range l.length)) (by rw[List.map_fst_zip (by simp)];exact hnd)
 have e:=qW _ _ (hz.trans (yF _).symm) hstr hsr
 rw[← e,List.map_map]
 rfl
/-! ### appends to rows of y9 -/
def zD (w:World) (B:Nat) (v:Value) (L:List Int):Prop:=w.ownsRow B 3 1 v L.length (L.map (Value.int .i64))
theorem zD.nil (w:World) (B:Nat):zD w B (.slice none 0 0) []:=World.ownsRow_nil _ _ _ _
theorem zD.row {w:World} {B:Nat} {v:Value} {L:List Int} (h:zD w B v L):zU w v L:=by
 obtain⟨a,c,rfl,h1,h2,h3⟩:=jT h
 refine⟨a,c,rfl,h1,h2,h3,fun i x hx=>⟨trivial,?_⟩⟩
 rcases h.2 with ⟨e,_⟩|⟨g,cap,cur,e,_,hg,_⟩
 ·have hl:L.length=0:=by injection e
  have:L=[]:=List.eq_nil_of_length_eq_zero hl
  subst this;simp at hx
 ·have ea:a=some ⟨g,0,none⟩:=by injection e
  subst ea
  refine⟨g,0,rfl,?_⟩
  have:=World.ownsRow.cells h (g:=g) rfl i (.int .i64 x) (by simp[hx])
  rw[add0] at this
  simpa using this
def vT (B n:Nat) (w w':World):Prop:=
 Below B w w'∧∀(g:Nat) (cur:Array Value),w.heap[g]? = some (Obj.cells cur 3 (0,0))→∃cur':Array Value,w'.heap[g]? = some (Obj.cells cur' 3 (0,0))∧cur'.size=cur.size∧cur'.toList.take n=cur.toList.take n
theorem vT.of_grew {B n:Nat} {w w':World} (h:jC w w') (hB:B≤w.heap.size):vT B n w w':=⟨Below.mono h hB,fun g cur hg=>⟨cur,h.heap hg,rfl,rfl⟩⟩
theorem zD.keep {B n:Nat} {w w':World} {v:Value} {L:List Int} (h:zD w B v L) (hk:vT B n w w') (hn:L.length≤n):zD w' B v L:=by
 refine⟨h.1,?_⟩
 rcases h.2 with h2|⟨g,cap,cur,h1,hB,h2,h3,h4,h5,h6⟩
 ·exact .inl h2
 ·obtain⟨cur',q1,q2,q3⟩:=hk.2 g cur h2
  refine .inr ⟨g,cap,cur',h1,hB,q1,h3,h4,by rw[q2];exact h5,?_⟩
  have e:cur'.toList.take (L.length*1)=(cur'.toList.take n).take (L.length*1):=by rw[List.take_take];congr 1;omega
  have e2:cur.toList.take (L.length*1)=(cur.toList.take n).take (L.length*1):=by rw[List.take_take];congr 1;omega
  rw[e,q3,← e2];exact h6
theorem aO:∃i0,Try.prog.info? 3=some i0∧i0.zero=some (.int .i64 0)∧i0.size=1∧i0.bytes=8:=by
 have h:=Try.infoIntK
 cases hi:Try.prog.info? 3 with
 | none=>rw[hi] at h;cases h
 | some i=>
  rw[hi] at h
  simp at h
  exact⟨i,rfl,h.1,h.2.1,h.2.2⟩
theorem KX (w:World) (ty:TypeId) (B:Nat) (v:Value) (L:List Int) (kE:zD w B v L) (sv:Value) (L2:List Int) (hsv:zU w sv L2) (kV:L.length+L2.length≤16384) (hB:B≤w.heap.size) (hv0:L.length=0→v=.slice none 0 0) :
 ∃v' w',(Builtin.append_ #[69,69] ty #[v,sv]).run Try.prog w=.ok v' w'∧zD w' B v' (L++L2)∧vT B (max L.length 1) w w'∧((L++L2).length=0→v'=.slice none 0 0)∧(v=.slice none 0 0→jC w w'):=by
 obtain⟨i0,hi,hz0,hz1,hz2⟩:=aO
 obtain⟨sa,c,rfl,hlc,hcm,zE,zG⟩:=hsv
 have ho0:=kE
 unfold zD at kE
 cases sa with
 | none=>
  have hc:=zE rfl
  subst hc
  have h0:L2=[]:=List.eq_nil_of_length_eq_zero (by omega)
  subst h0
  have hrun:=run_append_owned_none (P:=Try.prog) (w:=w) B 69 ty 3 i0 1 Try.underlying69 hi v L.length _ kE
  exact⟨v,w,hrun,by rw[List.append_nil];exact ho0,vT.of_grew (jC.refl w) hB,fun h=>hv0 (by simpa using h),fun _=>jC.refl w⟩
 | some ad=>
  have hnews:∀j u,(L2.map (Value.int .i64))[j]? = some u→w.cell? (ad.add j)=some u:=by
   intro j u hj
   rw[List.getElem?_map] at hj
   cases hq:L2[j]? with
   | none=>rw[hq] at hj;cases hj
   | some x=>
    rw[hq] at hj
    obtain⟨_,b,off,e,hc⟩:=zG j x hq
    cases e
    simp at hj
    subst hj
    rw[YJ _ b off j rfl]
    exact hc
  have h1:∀u∈L2.map (Value.int .i64),u.oneCell'=true:=by
   intro u hu
   obtain⟨x,_,rfl⟩:=List.mem_map.1 hu
   rfl
  have hl:(L2.map (Value.int .i64)).length=L2.length*1:=by simp
  obtain⟨v',w',hr,ho,hgr,hvn⟩:=run_append_own_wide (P:=Try.prog) w B 69 ty 3 i0 (.int .i64 0) 1 8 Try.underlying69 hi hz0 hz1 hz2 rfl (by omega) v L.length _ kE ad L2.length c _ hl hnews h1 (by unfold maxLen;omega) (by omega) hB
  have hown':zD w' B v' (L++L2):=by
   unfold zD
   rw[List.length_append,List.map_append];exact ho
  refine⟨v',w',hr,hown',?_,fun h=>hvn.2 ⟨hv0 (by rw[List.length_append] at h;omega),by rw[List.length_append] at h;omega⟩,fun e=>by subst e;exact⟨hgr.os,hgr.tape,hgr.output,hgr.size,fun k hk=>hgr.block k hk (by simp[Value.ownBlock])⟩⟩
  rcases kE.2 with ⟨rfl,_⟩|⟨g,cap,cur,rfl,hbg,hg,hnc,hcm',hcs,htake⟩
  ·exact vT.of_grew ⟨hgr.os,hgr.tape,hgr.output,hgr.size,fun k hk=>hgr.block k hk (by simp[Value.ownBlock])⟩ hB
  ·by_cases hroom:L.length+L2.length≤cap
   ·obtain⟨w2,hr2,ho2,hg2⟩:=run_append_own_spare (P:=Try.prog) w B 69 ty 3 i0 1 Try.underlying69 hi hz1 g L.length cap _ kE ad L2.length c _ hl hnews h1 hroom
    rw[hr] at hr2
    cases hr2
    refine⟨Below.grown (Below.refl _ _) hg2 hB (fun k e=>by cases e;exact hbg),fun q cq hq=>?_⟩
    by_cases e:q=g
    ·subst e
     rw[hg] at hq
     cases hq
     rcases ho2.2 with ⟨e,_⟩|⟨g',cap',cur',e,_,hgg,_,_,hcs',ht'⟩
     ·cases e
     ·cases e
      refine⟨cur',hgg,by rw[hcs,hcs'],?_⟩
      by_cases hL0:L.length=0
      ·have:=hv0 hL0;cases this
      ·rw[show max L.length 1=L.length by omega]
       have e1:cur'.toList.take L.length=(cur'.toList.take ((L.length+L2.length)*1)).take L.length:=by rw[List.take_take];congr 1;omega
       rw[e1,ht',List.take_left' (by simp)]
       rw[← htake];congr 1;omega
    ·exact⟨cq,(hg2.block q (Array.getElem?_eq_some_iff.1 hq).1 (by intro e';injection e' with e';exact e e')).trans hq,rfl,rfl⟩
   ·have holds:∀j u,(L.map (Value.int .i64))[j]? = some u→w.cell? ((⟨g,0,none⟩:Addr).add j)=some u:=World.ownsRow.cells kE (g:=g) rfl
    have hr2:=run_append_grow (P:=Try.prog) w 69 ty 3 i0 (.int .i64 0) Try.underlying69 hi hz0 ⟨g,0,none⟩ L.length cap _ (by rw[hz1];simp) holds ad L2.length c _ (by rw[hz1];exact hl) hnews (by omega) (by omega) (by rw[hz2];exact growslice_fits_wide (by omega) (by omega))
    rw[hr] at hr2
    cases hr2
    exact vT.of_grew (((jC.refl w).drew).alloc _) hB
def kM (B at_:Nat) (i:Nat) (w w':World):Prop:=Below B w w'∧((i=7∧vT B (max at_ 1) w w')∨(i=11∧vT B (at_+1) w w')∨jC w w')
theorem kM.below {B at_:Nat} (i:Nat) (w w':World) (h:kM B at_ i w w'):Below B w w':=h.1
theorem kM.refl {B at_:Nat} (i:Nat) (w:World):kM B at_ i w w:=⟨Below.refl _ _,.inr (.inr (jC.refl w))⟩
theorem kM.grew {B at_ i:Nat} {w w':World} (hB:B≤w.heap.size) (h:jC w w'):kM B at_ i w w':=⟨Below.mono h hB,.inr (.inr h)⟩
theorem zD.step {B at_ i:Nat} {w w':World} {v:Value} {L:List Int} (h:zD w B v L) (ht:kM B at_ i w w') (h7:i=7→L.length≤max at_ 1) (h11:i=11→L.length≤at_+1):zD w' B v L:=by
 rcases ht.2 with ⟨e,hk⟩|⟨e,hk⟩|hg
 ·exact h.keep hk (h7 e)
 ·exact h.keep hk (h11 e)
 ·exact qC h hg
theorem zU.take {w:World} {a:Option Addr} {c:Nat} {L:List Int} (h:zU w (.slice a L.length c) L) {k:Nat} (hk:k≤L.length):zU w (.slice a k c) (L.take k):=by
 obtain⟨a',c',e,h1,h2,h3,h4⟩:=h
 cases e
 refine⟨a,c,by rw[List.length_take];congr 1;omega,by rw[List.length_take];omega,h2,h3,fun i x hx=>?_⟩
 have hi:i < k:=by have:=(List.getElem?_eq_some_iff.1 hx).1;rw[List.length_take] at this;omega
 rw[List.getElem?_take,if_pos hi] at hx
 exact h4 i x hx
theorem zU.drop {w:World} {g c:Nat} {L:List Int} (h:zU w (.slice (some ⟨g,0,none⟩) L.length c) L) {k:Nat} (hk:k≤L.length):zU w (.slice (some ⟨g,k,none⟩) (L.length - k) (c - k)) (L.drop k):=by
 obtain⟨a',c',e,h1,h2,h3,h4⟩:=h
 cases e
 refine⟨_,c - k,by rw[List.length_drop],by rw[List.length_drop];omega,by unfold jI at *;omega,fun h=>(by cases h),fun i x hx=>?_⟩
 rw[List.getElem?_drop] at hx
 obtain⟨_,b,off,e,hc⟩:=h4 (k+i) x hx
 cases e
 exact⟨trivial,g,k,rfl,by rw[show k+i=0+(k+i) by omega];exact hc⟩
theorem zU.drop' {w:World} {g c:Nat} {L:List Int} (h:zU w (.slice (some ⟨g,0,none⟩) L.length c) L) {k:Nat} (hk:k≤L.length):zU w (.slice (if c=k then some ⟨g,0,none⟩ else some ⟨g,k,none⟩) (L.length - k) (c - k)) (L.drop k):=by
 by_cases e:c=k
 ·rw[if_pos e]
  have hc:L.length≤c:=by obtain⟨_,_,e',h1,_⟩:=h;cases e';exact h1
  have hl:L.drop k=[]:=List.drop_eq_nil_of_le (by omega)
  rw[hl]
  have h0:L.length - k=0:=by omega
  rw[h0]
  exact⟨some ⟨g,0,none⟩,c - k,rfl,Nat.zero_le _,by unfold jI;omega,fun h=>(by cases h),by simp⟩
 ·rw[if_neg e];exact h.drop hk
theorem zU.below {w w':World} {v:Value} {L:List Int} (h:zU w v L) (hb:Below w.heap.size w w'):zU w' v L:=zU.grew h hb
theorem kW {o:Oper} {a:Act} {w:World} {K:Act→World→Prop} {Q:Exit→Act→World→Prop} (s x:Operand) (ho:o.op=.call {callee:=.builtin .append,args:=#[s,x],argTypes:=#[69,69]})
 (B:Nat) (v:Value) (L:List Int) (hs:a.eval s=v) (kE:zD w B v L) (sv:Value) (L2:List Int) (hx:a.eval x=sv) (hsv:zU w sv L2) (kV:L.length+L2.length≤16384) (hB:B≤w.heap.size) (hv0:L.length=0→v=.slice none 0 0)
 (h:∀v' w',zD w' B v' (L++L2)→vT B (max L.length 1) w w'→(((L++L2).length=0→v'=.slice none 0 0)∧(v=.slice none 0 0→jC w w'))→K (a.put o.dst v') w'):o.wp Try.prog a w K Q:=by
 obtain⟨v',w',hr,h2,h3,h4,h5⟩:=KX w o.type B v L kE sv L2 hsv kV hB hv0
 unfold Oper.wp execOp
 simp only[ho,resolve,invoke,builtin,Sem.run_bind,Sem.run_pure,Result.andThen_ok,List.map_toArray,List.map_cons,List.map_nil,hs,hx,hr]
 exact h v' w' h2 h3 ⟨h4,h5⟩
theorem zU.at {w:World} {a:Option Addr} {n c:Nat} {L:List Int} (h:zU w (.slice a n c) L) {i:Nat} {x:Int} (hx:L[i]? = some x):∃b off,a=some ⟨b,off,none⟩∧w.cell? ⟨b,off+i,none⟩=some (.int .i64 x):=by
 obtain⟨a',c',e,_,_,_,hr⟩:=h
 injection e with e1 _ _
 obtain⟨_,b,off,e2,hc⟩:=hr i x hx
 exact⟨b,off,by rw[e1,e2],hc⟩
abbrev y9 (X:List Nat):List Int:=X.map fun (x:Nat)=>(x:Int)
theorem YT (w:World) (B:Nat) (hB:B≤w.heap.size) (x:Int):zD (w.alloc (.cells #[.int .i64 x] 3)) B (.slice (some ⟨w.heap.size,0,none⟩) 1 1) [x]:=
 ⟨rfl,.inr ⟨w.heap.size,1,_,rfl,hB,heap_alloc_new _ _,Nat.le_refl _,by unfold maxLen;omega,rfl,rfl⟩⟩
theorem VG (l:List ByteArray) (hl:l.length≤4096) (lv:Value) (w:World) (hs:kO w lv l) :
 Calls Try.prog 66 #[lv] w fun r w'=>jC w w'∧∃v,r=.returned (.tuple #[v,.int .i64 (QK l).2])∧zU w' v (QK l).1:=by
 have HS:=zh hs
 obtain⟨a,c,rfl⟩:=hs.form
 go_enter Try.func66,Try.ntmps66
 go_wp2_with fail
 go_loopw [4,5] (fun o i wr=>∃X:List Nat,X.length≤l.length∧i=.int .i64 X.length∧Hid (JQ l X.length X∧jC w wr∧zD wr w.heap.size o (y9 X))) (fun _ i _=>l.length - (intOf i).toNat)
 case atStart=>exact⟨[],Nat.zero_le _,rfl,⟨by simp,List.Pairwise.nil⟩,jC.refl _,zD.nil _ _⟩
 case round=>
  obtain⟨X,hq,rfl,HW⟩:=hrel
  obtain⟨oa,oc,eo,ho1,ho2,ho3⟩:=jT HW.out.2.2
  subst eo
  rw[List.length_map] at ho1
  have HOW:Hid (zD wr w.heap.size (.slice oa X.length oc) (y9 X)):=by
   have:=HW.out.2.2;rwa [List.length_map] at this
  rw[List.length_map]
  by_cases hlt:X.length < l.length
  ·obtain⟨s,hsx⟩:∃s,l[X.length]? = some s:=⟨_,List.getElem?_eq_getElem hlt⟩
   have hst:=HS.out.grew HW.out.2.1
   obtain⟨_,_,ee,_,_,_,zG⟩:=HS.out
   cases ee
   obtain⟨hz,b0,o0,e0,hc0⟩:=zG X.length s hsx
   subst e0
   have HSX:=zh (And.intro hsx hz)
   have HCELL:=zh zG
   have d0:=HW.out.2.1.cell hc0
   have hli:(X.length:Int) < l.length:=by omega
   have hld:decide ((X.length:Int) < l.length)=true:=decide_eq_true hli
   clear zG hc0 hsx hz hst ho2 ho3
   go_wp2_with fail
   go_loopw [6] (fun i wr2=>∃k:Nat,k≤X.length∧i=.int .i64 k∧Hid (jC wr wr2)∧Hid (∀x∈X.take k,ltS (zP l x) s=true)) (fun i _=>X.length - (intOf i).toNat)
   case atStart=>exact⟨0,Nat.zero_le _,rfl,jC.refl _,by show ∀x∈X.take 0,_;simp⟩
   case round=>
    obtain⟨k,hk,rfl,HGD,HV⟩:=hrel
    have hgd:=HW.out.2.1.trans HGD.out
    replace d0:=HGD.out.cell d0
    by_cases hkX:k < X.length
    ·obtain⟨x,hx⟩:∃x,X[k]? = some x:=⟨_,List.getElem?_eq_getElem hkX⟩
     have hxl:x < X.length:=HW.out.1.lt (List.mem_of_getElem? hx)
     obtain⟨sx,hsx⟩:∃sx,l[x]? = some sx:=⟨_,List.getElem?_eq_getElem (by omega)⟩
     have hkx:=vN hsx
     obtain⟨hzx,bx,ox,ex,hcx⟩:=HCELL.out x sx hsx
     cases ex
     have dx:=hgd.cell hcx
     obtain⟨br,orr,e2,hcr⟩:=HOW.out.row.at (i:=k) (x:=(x:Int)) (by rw[List.getElem?_map,hx];rfl)
     subst e2
     replace hcr:=HGD.out.cell hcr
     have HGD2:=zh hgd
     clear hgd
     have hki:(k:Int) < X.length:=by omega
     have hkd:decide ((k:Int) < X.length)=true:=decide_eq_true hki
     have hxi:(x:Int) < l.length:=by omega
     have HXX:=zh (And.intro hx (And.intro hsx hkx))
     have zX:=fun w=>aD sx s w hzx HSX.out.2
     clear hx hsx hkx hcx
     cases hls:ltS sx s with
     | true=>
      have HLS:=zh hls
      rw[hls] at zX
      have kA:=zh zX
      clear hls zX
      go_wp2_with fail
      go_quiet ((go_at_call 74;exact Calls.quiet_of (kA.out _)))
      go_wp2_with fail
      go_roundw
      case rel=>exact⟨k+1,by omega,by go_num,HGD.out.drewN _,by
       show ∀y∈X.take (k+1),_
       intro y hy
       rw[List.take_add_one,HXX.out.1] at hy
       rcases List.mem_append.1 hy with hy|hy
       ·exact HV.out y hy
       ·simp at hy;subst hy;rw[HXX.out.2.2];exact HLS.out⟩
      case measure=>simp[intOf];omega
     | false=>
      have HLS:=zh hls
      rw[hls] at zX
      have kA:=zh zX
      clear hls zX
      have hste:=qL sx s
      by_cases hes:sx=s
      ·have hd:decide (sx=s)=true:=decide_eq_true hes
       rw[hd] at hste
       have HDUP:Hid (¬l.Nodup):=by
        intro hnd
        have h1:=HXX.out.2.1
        have h2:=HSX.out.1
        rw[hes] at h1
        have hx1:=(List.getElem?_eq_some_iff.1 h1)
        have hx2:=(List.getElem?_eq_some_iff.1 h2)
        exact List.pairwise_iff_getElem.1 hnd x X.length hx1.1 hx2.1 hxl (hx1.2.trans hx2.2.symm)
       clear hes hd
       go_wp2_with fail
       go_quiet ((go_at_call 74;exact Calls.quiet_of (kA.out _)))
       go_wp2_with fail
       go_quiet (fail)
       go_wp2_with fail
       go_ret2
       have e:QK l=([],71):=by unfold QK;rw[if_neg HDUP.out]
       rw[e]
       exact⟨(HGD2.out.drewN _).drewN _,_,rfl,zU.nil _⟩
      ·have hd:decide (sx=s)=false:=decide_eq_false hes
       rw[hd] at hste
       have HNE:=zh hes
       have horr:orr=0:=by
        rcases HOW.out.2 with ⟨e,_⟩|⟨g,cap,cur,e,_⟩
        ·cases e
        ·injection e with e;injection e with e;injection e with _ e
       subst horr
       rw[Nat.zero_add] at hcr
       clear hes hd
       go_wp2_with fail
       go_quiet ((go_at_call 74;exact Calls.quiet_of (kA.out _)))
       generalize nq=n1
       go_wp2_with fail
       go_quiet (fail)
       go_wp2_with fail
       generalize nq=n2
       have HGV:Hid (jC w ((wr.drewN n1).drewN n2)):=(HGD2.out.drewN _).drewN _
       have HOV:Hid (zD ((wr.drewN n1).drewN n2) w.heap.size (.slice (some ⟨br,0,none⟩) X.length oc) (y9 X)):=qC HOW.out (((HGD.out.drewN n1).drewN n2))
       generalize ((wr.drewN n1).drewN n2)=wv at *
       obtain⟨B,hB⟩:∃B,wv.heap.size=B:=⟨_,rfl⟩
       have HBB:Hid (B≤wv.heap.size):=Nat.le_of_eq hB.symm
       have HDREW:Hid (Below B wv wv.drew):=by subst hB;exact (jC.refl wv).drew
       obtain⟨L1,hL1⟩:∃L,(y9 X).take k=L:=⟨_,rfl⟩
       obtain⟨L2,hL2⟩:∃L,(y9 X).drop k=L:=⟨_,rfl⟩
       have HLL:Hid (L1.length=k∧k+L2.length≤4096):=by
        show _∧_
        rw[← hL1,← hL2,List.length_take,List.length_drop,List.length_map];omega
       have HLX:Hid (L1++[(X.length:Int)]++L2=y9 (X.take k++[X.length]++X.drop k)):=by
        show _=_
        rw[← hL1,← hL2];simp[y9,List.map_take,List.map_drop]
       have hrw:zU wv (.slice (some ⟨br,0,none⟩) (y9 X).length oc) (y9 X):=by rw[List.length_map];exact HOV.out.row
       have HROW1:Hid (∀w',Below B wv w'→zU w' (.slice (some ⟨br,0,none⟩) k oc) L1):=by
        intro w' hb
        subst hB
        rw[← hL1]
        exact (zU.take hrw (by rw[List.length_map];omega)).below hb
       have HROW2:Hid (∀w',Below B wv w'→zU w' (.slice (if oc=k then some ⟨br,0,none⟩ else some ⟨br,k,none⟩) (X.length - k) (oc - k)) L2):=by
        intro w' hb
        subst hB
        rw[← hL2]
        have:=(zU.drop' hrw (k:=k) (by rw[List.length_map];omega)).below hb
        rwa [List.length_map] at this
       clear hrw
       have HORD:Hid (JQ l (X.length+1) (X.take k++[X.length]++X.drop k)):=by
        have hks:=vN HSX.out.1
        refine HW.out.1.insert k (by omega) (fun y hy=>by rw[hks];exact HV.out y hy) (fun y hy=>?_)
        rw[hks]
        rw[HXX.out.1] at hy
        injection hy with hy
        subst hy
        rw[HXX.out.2.2]
        exact⟨HLS.out,HNE.out⟩
       obtain⟨X',hX'⟩:∃X',X.take k++[X.length]++X.drop k=X':=⟨_,rfl⟩
       rw[hX'] at HORD HLX
       have HXL:Hid (X'.length=X.length+1):=HORD.out.len
       have HBV:Hid (wv.heap.size=B):=hB
       have hkoc:k≤oc:=by omega
       clear hL1 hL2 hB hX' dx hcr d0
       refine yL (Below B) 0 (fun _=>True) (kM B k) [[],[],[],[1,2],[0,1,2,3],[],[5],[0,1,2,3,4,5,6],[],[],[8,9],[0,1,2,3,4,5,6,7,8,9,10],[0,1,2,3,4,5,6,7,8,9,10,11]] [[(53,1),(54,2),(55,3),(57,5),(58,6),(60,8),(61,9),(62,10)],[(52,0),(54,2),(57,5),(58,6),(60,8),(61,9),(62,10)],[(52,0),(53,1),(57,5),(58,6),(60,8),(61,9),(62,10)],[(52,0),(53,1),(54,2),(57,5),(58,6),(60,8),(61,9),(62,10)],[(52,0),(53,1),(54,2),(55,3),(57,5),(58,6),(60,8),(61,9),(62,10)],[(52,0),(53,1),(54,2),(55,3),(56,4),(60,8),(61,9),(62,10)],[(52,0),(53,1),(54,2),(55,3),(56,4),(57,5),(60,8),(61,9),(62,10)],[(52,0),(53,1),(54,2),(55,3),(56,4),(57,5),(58,6),(60,8),(61,9),(62,10)],[(52,0),(53,1),(54,2),(55,3),(56,4),(57,5),(58,6),(59,7),(61,9)],[(52,0),(53,1),(54,2),(55,3),(56,4),(57,5),(58,6),(59,7),(60,8)],[(52,0),(53,1),(54,2),(55,3),(56,4),(57,5),(58,6),(59,7),(60,8),(61,9)],[(52,0),(53,1),(54,2),(55,3),(56,4),(57,5),(58,6),(59,7),(60,8),(61,9),(62,10)],[(52,0),(53,1),(54,2),(55,3),(56,4),(57,5),(58,6),(59,7),(60,8),(61,9),(62,10),(63,11)]] [(52,0),(53,1),(54,2),(55,3),(56,4),(57,5),(58,6),(59,7),(60,8),(61,9),(62,10),(63,11),(4,12)]
        [fun y v w=>v=.slice none 0 0,fun y v w=>v=.slice (some ⟨br,0,none⟩) X.length oc,fun y v w=>v=.int .i64 k,fun y v w=>v=.slice (some ⟨br,0,none⟩) k oc,fun y v w=>zD w B v L1∧(L1.length=0→v=.slice none 0 0),fun y v w=>v=.int .i64 X.length,fun y v w=>zD w B v [(X.length:Int)],fun y v w=>zD w B v (L1++[(X.length:Int)]),fun y v w=>v=.slice (some ⟨br,0,none⟩) X.length oc,fun y v w=>v=.int .i64 k,fun y v w=>v=.slice (if oc=k then some ⟨br,0,none⟩ else some ⟨br,k,none⟩) (X.length - k) (oc - k),fun y v w=>zD w B v (L1++[(X.length:Int)]++L2),fun y v w=>zD w B v (L1++[(X.length:Int)]++L2)]
        zk (fun h k=>Below.trans h k) (Below.refl _) kM.below kM.refl (fun _ _ _ _ _ h=>h) trivial HDREW.out zk
        ⟨fun i hi hnd y v w w' ht h=>h,fun i hi hnd y v w w' ht h=>h,fun i hi hnd y v w w' ht h=>h,fun i hi hnd y v w w' ht h=>h,fun i hi hnd y v w w' ht h=>⟨h.1.step ht (fun _=>by have:=HLL.out.1;omega) (fun _=>by have:=HLL.out.1;omega),h.2⟩,fun i hi hnd y v w w' ht h=>h,fun i hi hnd y v w w' ht h=>h.step ht (fun _=>by simp;omega) (fun _=>by simp),fun i hi hnd y v w w' ht h=>h.step ht (fun e=>absurd e hi) (fun _=>by have:=HLL.out.1;simp;omega),fun i hi hnd y v w w' ht h=>h,fun i hi hnd y v w w' ht h=>h,fun i hi hnd y v w w' ht h=>h,fun i hi hnd y v w w' ht h=>h.step ht (fun e=>by subst e;exact absurd hnd (by decide)) (fun e=>absurd e hi),fun i hi hnd y v w w' ht h=>h.step ht (fun e=>by subst e;exact absurd hnd (by decide)) (fun e=>by subst e;exact absurd hnd (by decide)),trivial⟩
        ⟨fun _ _ _ _ _ h=>h,fun _ _ _ _ _ h=>h,fun _ _ _ _ _ h=>h,fun _ _ _ _ _ h=>h,fun _ _ _ _ _ h=>h,fun _ _ _ _ _ h=>h,fun _ _ _ _ _ h=>h,fun _ _ _ _ _ h=>h,fun _ _ _ _ _ h=>h,fun _ _ _ _ _ h=>h,fun _ _ _ _ _ h=>h,fun _ _ _ _ _ h=>h,fun _ _ _ _ _ h=>h,trivial⟩
        ⟨?_,?_,?_,?_,?_,?_,?_,?_,?_,?_,?_,?_,?_,trivial⟩ rfl ?_
       ·intro y w2 hG hI hD K hK
        clear hI
        have hBs:B≤w2.heap.size:=Nat.le_trans HBB.out hG.size
        simp only[jD,Act.put,zq1,zq2,zq3,zq4,zq5] at hK⊢
        refine jF ?_
        go_simp
        exact hK _ _ _ rfl (kM.refl _ _) rfl
       ·intro y w2 hG hI hD K hK
        clear hI
        have hBs:B≤w2.heap.size:=Nat.le_trans HBB.out hG.size
        simp only[jD,Act.put,zq1,zq2,zq3,zq4,zq5] at hK⊢
        refine jF ?_
        go_simp
        exact hK _ _ _ rfl (kM.refl _ _) rfl
       ·intro y w2 hG hI hD K hK
        clear hI
        have hBs:B≤w2.heap.size:=Nat.le_trans HBB.out hG.size
        simp only[jD,Act.put,zq1,zq2,zq3,zq4,zq5] at hK⊢
        refine jF ?_
        go_simp
        exact hK _ _ _ rfl (kM.refl _ _) rfl
       ·intro y w2 hG hI hD K hK
        clear hI
        have hBs:B≤w2.heap.size:=Nat.le_trans HBB.out hG.size
        simp only[zB,zq4,zq5,and_true] at hD
        have h1:=hD.1
        have h2:=hD.2
        clear hD
        simp only[jD,Act.put,zq1,zq2,zq3,zq4,zq5] at hK⊢
        simp only[h1,h2] at hK⊢
        clear h1 h2
        refine jF ?_
        go_simp
        exact hK _ _ _ rfl (kM.refl _ _) rfl
       ·intro y w2 hG hI hD K hK
        clear hI
        have hBs:B≤w2.heap.size:=Nat.le_trans HBB.out hG.size
        simp only[zB,zq4,zq5,and_true] at hD
        have h0:=hD.1
        have h1:=hD.2.1
        have h2:=hD.2.2.1
        have h3:=hD.2.2.2
        clear hD
        simp only[jD,Act.put,zq1,zq2,zq3,zq4,zq5] at hK⊢
        simp only[h0,h1,h2,h3] at hK⊢
        clear h0 h1 h2 h3
        refine jF ?_
        refine kW _ _ rfl B (.slice none 0 0) [] rfl (zD.nil _ _) (.slice (some ⟨br,0,none⟩) k oc) L1 rfl (HROW1.out _ hG) (by have:=HLL.out;simp;omega) hBs (fun _=>rfl) ?_
        intro v' w' ho hk h0
        exact hK _ _ _ rfl ⟨hk.1,.inr (.inr (h0.2 rfl))⟩ ⟨by simpa using ho,fun h=>h0.1 (by simpa using h)⟩
       ·intro y w2 hG hI hD K hK
        clear hI
        have hBs:B≤w2.heap.size:=Nat.le_trans HBB.out hG.size
        simp only[jD,Act.put,zq1,zq2,zq3,zq4,zq5] at hK⊢
        refine jF ?_
        go_simp
        exact hK _ _ _ rfl (kM.refl _ _) rfl
       ·intro y w2 hG hI hD K hK
        clear hI
        have hBs:B≤w2.heap.size:=Nat.le_trans HBB.out hG.size
        simp only[zB,zq4,zq5,and_true] at hD
        have h5:=hD
        clear hD
        simp only[jD,Act.put,zq1,zq2,zq3,zq4,zq5] at hK⊢
        simp only[h5] at hK⊢
        clear h5
        refine jF ?_
        go_simp
        exact hK _ _ _ rfl (kM.grew hBs ((jC.refl _).alloc _)) (YT _ _ hBs _)
       ·intro y w2 hG hI hD K hK
        clear hI
        have hBs:B≤w2.heap.size:=Nat.le_trans HBB.out hG.size
        simp only[zB,zq4,zq5,and_true] at hD
        have h0:=hD.1
        have h1:=hD.2.1
        have h2:=hD.2.2.1
        have h3:=hD.2.2.2.1
        have h4:=hD.2.2.2.2.1
        have h5:=hD.2.2.2.2.2.1
        have h6:=hD.2.2.2.2.2.2
        clear hD
        simp only[jD,Act.put,zq1,zq2,zq3,zq4,zq5] at hK⊢
        simp only[h0,h1,h2,h3,h5] at hK⊢
        clear h0 h1 h2 h3 h5
        refine jF ?_
        refine kW _ _ rfl B (y 4) L1 rfl h4.1 (y 6) [(X.length:Int)] rfl h6.row (by have:=HLL.out;simp;omega) hBs h4.2 ?_
        intro v' w' ho hk _
        exact hK _ _ _ rfl ⟨hk.1,.inl ⟨rfl,by rw[← HLL.out.1];exact hk⟩⟩ ho
       ·intro y w2 hG hI hD K hK
        clear hI
        have hBs:B≤w2.heap.size:=Nat.le_trans HBB.out hG.size
        simp only[jD,Act.put,zq1,zq2,zq3,zq4,zq5] at hK⊢
        refine jF ?_
        go_simp
        exact hK _ _ _ rfl (kM.refl _ _) rfl
       ·intro y w2 hG hI hD K hK
        clear hI
        have hBs:B≤w2.heap.size:=Nat.le_trans HBB.out hG.size
        simp only[jD,Act.put,zq1,zq2,zq3,zq4,zq5] at hK⊢
        refine jF ?_
        go_simp
        exact hK _ _ _ rfl (kM.refl _ _) rfl
       ·intro y w2 hG hI hD K hK
        clear hI
        have hBs:B≤w2.heap.size:=Nat.le_trans HBB.out hG.size
        simp only[zB,zq4,zq5,and_true] at hD
        have h8:=hD.1
        have h9:=hD.2
        clear hD
        simp only[jD,Act.put,zq1,zq2,zq3,zq4,zq5] at hK⊢
        simp only[h8,h9] at hK⊢
        clear h8 h9
        refine jF ?_
        go_simp
        exact hK _ _ _ rfl (kM.refl _ _) rfl
       ·intro y w2 hG hI hD K hK
        clear hI
        have hBs:B≤w2.heap.size:=Nat.le_trans HBB.out hG.size
        simp only[zB,zq4,zq5,and_true] at hD
        have h0:=hD.1
        have h1:=hD.2.1
        have h2:=hD.2.2.1
        have h3:=hD.2.2.2.1
        have h4:=hD.2.2.2.2.1
        have h5:=hD.2.2.2.2.2.1
        have h6:=hD.2.2.2.2.2.2.1
        have h7:=hD.2.2.2.2.2.2.2.1
        have h8:=hD.2.2.2.2.2.2.2.2.1
        have h9:=hD.2.2.2.2.2.2.2.2.2.1
        have h10:=hD.2.2.2.2.2.2.2.2.2.2
        clear hD
        simp only[jD,Act.put,zq1,zq2,zq3,zq4,zq5] at hK⊢
        simp only[h0,h1,h2,h3,h5,h8,h9,h10] at hK⊢
        clear h0 h1 h2 h3 h5 h8 h9 h10
        refine jF ?_
        refine kW _ _ rfl B (y 7) (L1++[(X.length:Int)]) rfl h7 (.slice (if oc=k then some ⟨br,0,none⟩ else some ⟨br,k,none⟩) (X.length - k) (oc - k)) L2 rfl (HROW2.out _ hG) (by have:=HLL.out;simp;omega) hBs (fun h=>by simp at h) ?_
        intro v' w' ho hk _
        refine hK _ _ _ rfl ⟨hk.1,.inr (.inl ⟨rfl,?_⟩)⟩ ho
        have e:max (L1++[(X.length:Int)]).length 1=k+1:=by have:=HLL.out.1;simp;omega
        rw[e] at hk;exact hk
       ·intro y w2 hG hI hD K hK
        clear hI
        have hBs:B≤w2.heap.size:=Nat.le_trans HBB.out hG.size
        simp only[zB,zq4,zq5,and_true] at hD
        have h0:=hD.1
        have h1:=hD.2.1
        have h2:=hD.2.2.1
        have h3:=hD.2.2.2.1
        have h4:=hD.2.2.2.2.1
        have h5:=hD.2.2.2.2.2.1
        have h6:=hD.2.2.2.2.2.2.1
        have h7:=hD.2.2.2.2.2.2.2.1
        have h8:=hD.2.2.2.2.2.2.2.2.1
        have h9:=hD.2.2.2.2.2.2.2.2.2.1
        have h10:=hD.2.2.2.2.2.2.2.2.2.2.1
        have h11:=hD.2.2.2.2.2.2.2.2.2.2.2
        clear hD
        simp only[jD,Act.put,zq1,zq2,zq3,zq4,zq5] at hK⊢
        simp only[h0,h1,h2,h3,h5,h8,h9,h10] at hK⊢
        clear h0 h1 h2 h3 h5 h8 h9 h10
        refine jF ?_
        go_simp
        exact hK _ _ _ rfl (kM.refl _ _) h11
       ·intro y w2 hG hF
        simp only[qT,and_true,Nat.reduceAdd] at hF
        have h0:=hF.1
        have h1:=hF.2.1
        have h2:=hF.2.2.1
        have h3:=hF.2.2.2.1
        have h4:=hF.2.2.2.2.1
        have h5:=hF.2.2.2.2.2.1
        have h6:=hF.2.2.2.2.2.2.1
        have h7:=hF.2.2.2.2.2.2.2.1
        have h8:=hF.2.2.2.2.2.2.2.2.1
        have h9:=hF.2.2.2.2.2.2.2.2.2.1
        have h10:=hF.2.2.2.2.2.2.2.2.2.2.1
        have h11:=hF.2.2.2.2.2.2.2.2.2.2.2.1
        have h12:=hF.2.2.2.2.2.2.2.2.2.2.2.2
        clear hF
        simp only[jD,Act.put,zq1,zq2,zq3,zq4,zq5]
        simp only[h0,h1,h2,h3,h5,h8,h9,h10]
        clear h0 h1 h2 h3 h5 h8 h9 h10
        obtain⟨a12,c12,e12,_⟩:=jT h12
        rw[e12] at h12⊢
        have HF:Hid (jC w w2∧zD w2 w.heap.size (.slice a12 (L1++[(X.length:Int)]++L2).length c12) (y9 X')):=by
         have hgv:=HGV.out
         have hb:=HBV.out
         subst hb
         refine⟨hgv.trans hG,?_⟩
         have:=kX h12 hgv.size
         unfold zD
         rw[← HLX.out];exact this
        clear h4 h6 h7 h11 h12 hG e12
        go_wp2_with fail
        go_roundw
        case rel=>
         refine⟨X',by have:=HXL.out;omega,by rw[HXL.out];go_num,?_⟩
         have h1:=HORD.out
         rw[← HXL.out] at h1
         exact⟨h1,HF.out⟩
        case measure=>simp[intOf];omega
    ·have HKE:Hid (k=X.length):=by show _=_;omega
     have hkd:decide ((k:Int) < X.length)=false:=decide_eq_false (by omega)
     have HGD2:=zh hgd
     clear hgd
     go_wp2_with fail
     go_quiet (fail)
     generalize nq=n1
     go_wp2_with fail
     go_quiet (fail)
     go_wp2_with fail
     rcases hoa:oa with _|ad
     ·subst hoa
      have HX0:Hid (X.length=0∧oc=0):=by
       rcases HOW.out.2 with ⟨e,_⟩|⟨g,cap,cur,e,_⟩
       ·injection e with _ e1 e2;exact⟨e1,e2⟩
       ·injection e with e;cases e
      generalize nq=n2
      have HGV:Hid (jC w ((wr.drewN n1).drewN n2)):=(HGD2.out.drewN _).drewN _
      have HOV:Hid (zD ((wr.drewN n1).drewN n2) w.heap.size (.slice none X.length oc) (y9 X)):=qC HOW.out (((HGD.out.drewN n1).drewN n2))
      generalize ((wr.drewN n1).drewN n2)=wv at *
      obtain⟨B,hB⟩:∃B,wv.heap.size=B:=⟨_,rfl⟩
      have HBB:Hid (B≤wv.heap.size):=Nat.le_of_eq hB.symm
      have HDREW:Hid (Below B wv wv.drew):=by subst hB;exact (jC.refl wv).drew
      obtain⟨L1,hL1⟩:∃L,(y9 X).take k=L:=⟨_,rfl⟩
      obtain⟨L2,hL2⟩:∃L,(y9 X).drop k=L:=⟨_,rfl⟩
      have HLL:Hid (L1.length=k∧k+L2.length≤4096):=by
       show _∧_
       rw[← hL1,← hL2,List.length_take,List.length_drop,List.length_map];omega
      have HLX:Hid (L1++[(X.length:Int)]++L2=y9 (X.take k++[X.length]++X.drop k)):=by
       show _=_
       rw[← hL1,← hL2];simp[y9,List.map_take,List.map_drop]
      have HROW1:Hid (∀w',Below B wv w'→zU w' (.slice none k oc) L1):=by
       intro w' hb
       have e:L1=[]:=List.eq_nil_of_length_eq_zero (by have:=HLL.out.1;have:=HX0.out.1;omega)
       rw[e];exact⟨none,oc,by rw[show k=0 by have:=HX0.out.1;omega];rfl,Nat.zero_le _,by have:=HX0.out.2;unfold jI;omega,fun _=>HX0.out.2,by simp⟩
      have HROW2:Hid (∀w',Below B wv w'→zU w' (.slice none (X.length - k) (oc - k)) L2):=by
       intro w' hb
       have e:L2=[]:=by rw[← hL2];exact List.drop_eq_nil_of_le (by rw[List.length_map];have:=HX0.out.1;omega)
       rw[e,show X.length - k=0 by have:=HX0.out.1;omega];exact⟨none,oc - k,rfl,Nat.zero_le _,by have:=HX0.out.2;unfold jI;omega,fun _=>by have:=HX0.out.2;omega,by simp⟩
      have HORD:Hid (JQ l (X.length+1) (X.take k++[X.length]++X.drop k)):=by
       have hks:=vN HSX.out.1
       refine HW.out.1.insert k (by omega) (fun y hy=>by rw[hks];exact HV.out y hy) (fun y hy=>?_)
       rw[hks]
       rw[List.getElem?_eq_none (by have:=HKE.out;omega)] at hy
       cases hy
      obtain⟨X',hX'⟩:∃X',X.take k++[X.length]++X.drop k=X':=⟨_,rfl⟩
      rw[hX'] at HORD HLX
      have HXL:Hid (X'.length=X.length+1):=HORD.out.len
      have HBV:Hid (wv.heap.size=B):=hB
      have hkoc:k≤oc:=by omega
      clear hL1 hL2 hB hX' d0
      refine yL (Below B) 0 (fun _=>True) (kM B k) [[],[],[],[1,2],[0,1,2,3],[],[5],[0,1,2,3,4,5,6],[],[],[8,9],[0,1,2,3,4,5,6,7,8,9,10],[0,1,2,3,4,5,6,7,8,9,10,11]] [[(53,1),(54,2),(55,3),(57,5),(58,6),(60,8),(61,9),(62,10)],[(52,0),(54,2),(57,5),(58,6),(60,8),(61,9),(62,10)],[(52,0),(53,1),(57,5),(58,6),(60,8),(61,9),(62,10)],[(52,0),(53,1),(54,2),(57,5),(58,6),(60,8),(61,9),(62,10)],[(52,0),(53,1),(54,2),(55,3),(57,5),(58,6),(60,8),(61,9),(62,10)],[(52,0),(53,1),(54,2),(55,3),(56,4),(60,8),(61,9),(62,10)],[(52,0),(53,1),(54,2),(55,3),(56,4),(57,5),(60,8),(61,9),(62,10)],[(52,0),(53,1),(54,2),(55,3),(56,4),(57,5),(58,6),(60,8),(61,9),(62,10)],[(52,0),(53,1),(54,2),(55,3),(56,4),(57,5),(58,6),(59,7),(61,9)],[(52,0),(53,1),(54,2),(55,3),(56,4),(57,5),(58,6),(59,7),(60,8)],[(52,0),(53,1),(54,2),(55,3),(56,4),(57,5),(58,6),(59,7),(60,8),(61,9)],[(52,0),(53,1),(54,2),(55,3),(56,4),(57,5),(58,6),(59,7),(60,8),(61,9),(62,10)],[(52,0),(53,1),(54,2),(55,3),(56,4),(57,5),(58,6),(59,7),(60,8),(61,9),(62,10),(63,11)]] [(52,0),(53,1),(54,2),(55,3),(56,4),(57,5),(58,6),(59,7),(60,8),(61,9),(62,10),(63,11),(4,12)]
       [fun y v w=>v=.slice none 0 0,fun y v w=>v=.slice none X.length oc,fun y v w=>v=.int .i64 k,fun y v w=>v=.slice none k oc,fun y v w=>zD w B v L1∧(L1.length=0→v=.slice none 0 0),fun y v w=>v=.int .i64 X.length,fun y v w=>zD w B v [(X.length:Int)],fun y v w=>zD w B v (L1++[(X.length:Int)]),fun y v w=>v=.slice none X.length oc,fun y v w=>v=.int .i64 k,fun y v w=>v=.slice none (X.length - k) (oc - k),fun y v w=>zD w B v (L1++[(X.length:Int)]++L2),fun y v w=>zD w B v (L1++[(X.length:Int)]++L2)]
       zk (fun h k=>Below.trans h k) (Below.refl _) kM.below kM.refl (fun _ _ _ _ _ h=>h) trivial HDREW.out zk
       ⟨fun i hi hnd y v w w' ht h=>h,fun i hi hnd y v w w' ht h=>h,fun i hi hnd y v w w' ht h=>h,fun i hi hnd y v w w' ht h=>h,fun i hi hnd y v w w' ht h=>⟨h.1.step ht (fun _=>by have:=HLL.out.1;omega) (fun _=>by have:=HLL.out.1;omega),h.2⟩,fun i hi hnd y v w w' ht h=>h,fun i hi hnd y v w w' ht h=>h.step ht (fun _=>by simp;omega) (fun _=>by simp),fun i hi hnd y v w w' ht h=>h.step ht (fun e=>absurd e hi) (fun _=>by have:=HLL.out.1;simp;omega),fun i hi hnd y v w w' ht h=>h,fun i hi hnd y v w w' ht h=>h,fun i hi hnd y v w w' ht h=>h,fun i hi hnd y v w w' ht h=>h.step ht (fun e=>by subst e;exact absurd hnd (by decide)) (fun e=>absurd e hi),fun i hi hnd y v w w' ht h=>h.step ht (fun e=>by subst e;exact absurd hnd (by decide)) (fun e=>by subst e;exact absurd hnd (by decide)),trivial⟩
       ⟨fun _ _ _ _ _ h=>h,fun _ _ _ _ _ h=>h,fun _ _ _ _ _ h=>h,fun _ _ _ _ _ h=>h,fun _ _ _ _ _ h=>h,fun _ _ _ _ _ h=>h,fun _ _ _ _ _ h=>h,fun _ _ _ _ _ h=>h,fun _ _ _ _ _ h=>h,fun _ _ _ _ _ h=>h,fun _ _ _ _ _ h=>h,fun _ _ _ _ _ h=>h,fun _ _ _ _ _ h=>h,trivial⟩
       ⟨?_,?_,?_,?_,?_,?_,?_,?_,?_,?_,?_,?_,?_,trivial⟩ rfl ?_
      ·intro y w2 hG hI hD K hK
       clear hI
       have hBs:B≤w2.heap.size:=Nat.le_trans HBB.out hG.size
       simp only[jD,Act.put,zq1,zq2,zq3,zq4,zq5] at hK⊢
       refine jF ?_
       go_simp
       exact hK _ _ _ rfl (kM.refl _ _) rfl
      ·intro y w2 hG hI hD K hK
       clear hI
       have hBs:B≤w2.heap.size:=Nat.le_trans HBB.out hG.size
       simp only[jD,Act.put,zq1,zq2,zq3,zq4,zq5] at hK⊢
       refine jF ?_
       go_simp
       exact hK _ _ _ rfl (kM.refl _ _) rfl
      ·intro y w2 hG hI hD K hK
       clear hI
       have hBs:B≤w2.heap.size:=Nat.le_trans HBB.out hG.size
       simp only[jD,Act.put,zq1,zq2,zq3,zq4,zq5] at hK⊢
       refine jF ?_
       go_simp
       exact hK _ _ _ rfl (kM.refl _ _) rfl
      ·intro y w2 hG hI hD K hK
       clear hI
       have hBs:B≤w2.heap.size:=Nat.le_trans HBB.out hG.size
       simp only[zB,zq4,zq5,and_true] at hD
       have h1:=hD.1
       have h2:=hD.2
       clear hD
       simp only[jD,Act.put,zq1,zq2,zq3,zq4,zq5] at hK⊢
       simp only[h1,h2] at hK⊢
       clear h1 h2
       refine jF ?_
       go_simp
       exact hK _ _ _ rfl (kM.refl _ _) rfl
      ·intro y w2 hG hI hD K hK
       clear hI
       have hBs:B≤w2.heap.size:=Nat.le_trans HBB.out hG.size
       simp only[zB,zq4,zq5,and_true] at hD
       have h0:=hD.1
       have h1:=hD.2.1
       have h2:=hD.2.2.1
       have h3:=hD.2.2.2
       clear hD
       simp only[jD,Act.put,zq1,zq2,zq3,zq4,zq5] at hK⊢
       simp only[h0,h1,h2,h3] at hK⊢
       clear h0 h1 h2 h3
       refine jF ?_
       refine kW _ _ rfl B (.slice none 0 0) [] rfl (zD.nil _ _) (.slice none k oc) L1 rfl (HROW1.out _ hG) (by have:=HLL.out;simp;omega) hBs (fun _=>rfl) ?_
       intro v' w' ho hk h0
       exact hK _ _ _ rfl ⟨hk.1,.inr (.inr (h0.2 rfl))⟩ ⟨by simpa using ho,fun h=>h0.1 (by simpa using h)⟩
      ·intro y w2 hG hI hD K hK
       clear hI
       have hBs:B≤w2.heap.size:=Nat.le_trans HBB.out hG.size
       simp only[jD,Act.put,zq1,zq2,zq3,zq4,zq5] at hK⊢
       refine jF ?_
       go_simp
       exact hK _ _ _ rfl (kM.refl _ _) rfl
      ·intro y w2 hG hI hD K hK
       clear hI
       have hBs:B≤w2.heap.size:=Nat.le_trans HBB.out hG.size
       simp only[zB,zq4,zq5,and_true] at hD
       have h5:=hD
       clear hD
       simp only[jD,Act.put,zq1,zq2,zq3,zq4,zq5] at hK⊢
       simp only[h5] at hK⊢
       clear h5
       refine jF ?_
       go_simp
       exact hK _ _ _ rfl (kM.grew hBs ((jC.refl _).alloc _)) (YT _ _ hBs _)
      ·intro y w2 hG hI hD K hK
       clear hI
       have hBs:B≤w2.heap.size:=Nat.le_trans HBB.out hG.size
       simp only[zB,zq4,zq5,and_true] at hD
       have h0:=hD.1
       have h1:=hD.2.1
       have h2:=hD.2.2.1
       have h3:=hD.2.2.2.1
       have h4:=hD.2.2.2.2.1
       have h5:=hD.2.2.2.2.2.1
       have h6:=hD.2.2.2.2.2.2
       clear hD
       simp only[jD,Act.put,zq1,zq2,zq3,zq4,zq5] at hK⊢
       simp only[h0,h1,h2,h3,h5] at hK⊢
       clear h0 h1 h2 h3 h5
       refine jF ?_
       refine kW _ _ rfl B (y 4) L1 rfl h4.1 (y 6) [(X.length:Int)] rfl h6.row (by have:=HLL.out;simp;omega) hBs h4.2 ?_
       intro v' w' ho hk _
       exact hK _ _ _ rfl ⟨hk.1,.inl ⟨rfl,by rw[← HLL.out.1];exact hk⟩⟩ ho
      ·intro y w2 hG hI hD K hK
       clear hI
       have hBs:B≤w2.heap.size:=Nat.le_trans HBB.out hG.size
       simp only[jD,Act.put,zq1,zq2,zq3,zq4,zq5] at hK⊢
       refine jF ?_
       go_simp
       exact hK _ _ _ rfl (kM.refl _ _) rfl
      ·intro y w2 hG hI hD K hK
       clear hI
       have hBs:B≤w2.heap.size:=Nat.le_trans HBB.out hG.size
       simp only[jD,Act.put,zq1,zq2,zq3,zq4,zq5] at hK⊢
       refine jF ?_
       go_simp
       exact hK _ _ _ rfl (kM.refl _ _) rfl
      ·intro y w2 hG hI hD K hK
       clear hI
       have hBs:B≤w2.heap.size:=Nat.le_trans HBB.out hG.size
       simp only[zB,zq4,zq5,and_true] at hD
       have h8:=hD.1
       have h9:=hD.2
       clear hD
       simp only[jD,Act.put,zq1,zq2,zq3,zq4,zq5] at hK⊢
       simp only[h8,h9] at hK⊢
       clear h8 h9
       refine jF ?_
       go_simp
       exact hK _ _ _ rfl (kM.refl _ _) rfl
      ·intro y w2 hG hI hD K hK
       clear hI
       have hBs:B≤w2.heap.size:=Nat.le_trans HBB.out hG.size
       simp only[zB,zq4,zq5,and_true] at hD
       have h0:=hD.1
       have h1:=hD.2.1
       have h2:=hD.2.2.1
       have h3:=hD.2.2.2.1
       have h4:=hD.2.2.2.2.1
       have h5:=hD.2.2.2.2.2.1
       have h6:=hD.2.2.2.2.2.2.1
       have h7:=hD.2.2.2.2.2.2.2.1
       have h8:=hD.2.2.2.2.2.2.2.2.1
       have h9:=hD.2.2.2.2.2.2.2.2.2.1
       have h10:=hD.2.2.2.2.2.2.2.2.2.2
       clear hD
       simp only[jD,Act.put,zq1,zq2,zq3,zq4,zq5] at hK⊢
       simp only[h0,h1,h2,h3,h5,h8,h9,h10] at hK⊢
       clear h0 h1 h2 h3 h5 h8 h9 h10
       refine jF ?_
       refine kW _ _ rfl B (y 7) (L1++[(X.length:Int)]) rfl h7 (.slice none (X.length - k) (oc - k)) L2 rfl (HROW2.out _ hG) (by have:=HLL.out;simp;omega) hBs (fun h=>by simp at h) ?_
       intro v' w' ho hk _
       refine hK _ _ _ rfl ⟨hk.1,.inr (.inl ⟨rfl,?_⟩)⟩ ho
       have e:max (L1++[(X.length:Int)]).length 1=k+1:=by have:=HLL.out.1;simp;omega
       rw[e] at hk;exact hk
      ·intro y w2 hG hI hD K hK
       clear hI
       have hBs:B≤w2.heap.size:=Nat.le_trans HBB.out hG.size
       simp only[zB,zq4,zq5,and_true] at hD
       have h0:=hD.1
       have h1:=hD.2.1
       have h2:=hD.2.2.1
       have h3:=hD.2.2.2.1
       have h4:=hD.2.2.2.2.1
       have h5:=hD.2.2.2.2.2.1
       have h6:=hD.2.2.2.2.2.2.1
       have h7:=hD.2.2.2.2.2.2.2.1
       have h8:=hD.2.2.2.2.2.2.2.2.1
       have h9:=hD.2.2.2.2.2.2.2.2.2.1
       have h10:=hD.2.2.2.2.2.2.2.2.2.2.1
       have h11:=hD.2.2.2.2.2.2.2.2.2.2.2
       clear hD
       simp only[jD,Act.put,zq1,zq2,zq3,zq4,zq5] at hK⊢
       simp only[h0,h1,h2,h3,h5,h8,h9,h10] at hK⊢
       clear h0 h1 h2 h3 h5 h8 h9 h10
       refine jF ?_
       go_simp
       exact hK _ _ _ rfl (kM.refl _ _) h11
      ·intro y w2 hG hF
       simp only[qT,and_true,Nat.reduceAdd] at hF
       have h0:=hF.1
       have h1:=hF.2.1
       have h2:=hF.2.2.1
       have h3:=hF.2.2.2.1
       have h4:=hF.2.2.2.2.1
       have h5:=hF.2.2.2.2.2.1
       have h6:=hF.2.2.2.2.2.2.1
       have h7:=hF.2.2.2.2.2.2.2.1
       have h8:=hF.2.2.2.2.2.2.2.2.1
       have h9:=hF.2.2.2.2.2.2.2.2.2.1
       have h10:=hF.2.2.2.2.2.2.2.2.2.2.1
       have h11:=hF.2.2.2.2.2.2.2.2.2.2.2.1
       have h12:=hF.2.2.2.2.2.2.2.2.2.2.2.2
       clear hF
       simp only[jD,Act.put,zq1,zq2,zq3,zq4,zq5]
       simp only[h0,h1,h2,h3,h5,h8,h9,h10]
       clear h0 h1 h2 h3 h5 h8 h9 h10
       obtain⟨a12,c12,e12,_⟩:=jT h12
       rw[e12] at h12⊢
       have HF:Hid (jC w w2∧zD w2 w.heap.size (.slice a12 (L1++[(X.length:Int)]++L2).length c12) (y9 X')):=by
        have hgv:=HGV.out
        have hb:=HBV.out
        subst hb
        refine⟨hgv.trans hG,?_⟩
        have:=kX h12 hgv.size
        unfold zD
        rw[← HLX.out];exact this
       clear h4 h6 h7 h11 h12 hG e12
       go_wp2_with fail
       go_roundw
       case rel=>
        refine⟨X',by have:=HXL.out;omega,by rw[HXL.out];go_num,?_⟩
        have h1:=HORD.out
        rw[← HXL.out] at h1
        exact⟨h1,HF.out⟩
       case measure=>simp[intOf];omega
     ·obtain⟨br,hbr⟩:∃br,ad=⟨br,0,none⟩:=by
       rcases HOW.out.2 with ⟨e,_⟩|⟨g,cap,cur,e,_⟩
       ·rw[hoa] at e;injection e with e;cases e
       ·rw[hoa] at e;injection e with e;injection e with e;exact⟨g,e⟩
      subst hbr
      subst hoa
      generalize nq=n2
      have HGV:Hid (jC w ((wr.drewN n1).drewN n2)):=(HGD2.out.drewN _).drewN _
      have HOV:Hid (zD ((wr.drewN n1).drewN n2) w.heap.size (.slice (some ⟨br,0,none⟩) X.length oc) (y9 X)):=qC HOW.out (((HGD.out.drewN n1).drewN n2))
      generalize ((wr.drewN n1).drewN n2)=wv at *
      obtain⟨B,hB⟩:∃B,wv.heap.size=B:=⟨_,rfl⟩
      have HBB:Hid (B≤wv.heap.size):=Nat.le_of_eq hB.symm
      have HDREW:Hid (Below B wv wv.drew):=by subst hB;exact (jC.refl wv).drew
      obtain⟨L1,hL1⟩:∃L,(y9 X).take k=L:=⟨_,rfl⟩
      obtain⟨L2,hL2⟩:∃L,(y9 X).drop k=L:=⟨_,rfl⟩
      have HLL:Hid (L1.length=k∧k+L2.length≤4096):=by
       show _∧_
       rw[← hL1,← hL2,List.length_take,List.length_drop,List.length_map];omega
      have HLX:Hid (L1++[(X.length:Int)]++L2=y9 (X.take k++[X.length]++X.drop k)):=by
       show _=_
       rw[← hL1,← hL2];simp[y9,List.map_take,List.map_drop]
      have hrw:zU wv (.slice (some ⟨br,0,none⟩) (y9 X).length oc) (y9 X):=by rw[List.length_map];exact HOV.out.row
      have HROW1:Hid (∀w',Below B wv w'→zU w' (.slice (some ⟨br,0,none⟩) k oc) L1):=by
       intro w' hb
       subst hB
       rw[← hL1]
       exact (zU.take hrw (by rw[List.length_map];omega)).below hb
      have HROW2:Hid (∀w',Below B wv w'→zU w' (.slice (if oc=k then some ⟨br,0,none⟩ else some ⟨br,k,none⟩) (X.length - k) (oc - k)) L2):=by
       intro w' hb
       subst hB
       rw[← hL2]
       have:=(zU.drop' hrw (k:=k) (by rw[List.length_map];omega)).below hb
       rwa [List.length_map] at this
      clear hrw
      have HORD:Hid (JQ l (X.length+1) (X.take k++[X.length]++X.drop k)):=by
       have hks:=vN HSX.out.1
       refine HW.out.1.insert k (by omega) (fun y hy=>by rw[hks];exact HV.out y hy) (fun y hy=>?_)
       rw[hks]
       rw[List.getElem?_eq_none (by have:=HKE.out;omega)] at hy
       cases hy
      obtain⟨X',hX'⟩:∃X',X.take k++[X.length]++X.drop k=X':=⟨_,rfl⟩
      rw[hX'] at HORD HLX
      have HXL:Hid (X'.length=X.length+1):=HORD.out.len
      have HBV:Hid (wv.heap.size=B):=hB
      have hkoc:k≤oc:=by omega
      clear hL1 hL2 hB hX' d0
      refine yL (Below B) 0 (fun _=>True) (kM B k) [[],[],[],[1,2],[0,1,2,3],[],[5],[0,1,2,3,4,5,6],[],[],[8,9],[0,1,2,3,4,5,6,7,8,9,10],[0,1,2,3,4,5,6,7,8,9,10,11]] [[(53,1),(54,2),(55,3),(57,5),(58,6),(60,8),(61,9),(62,10)],[(52,0),(54,2),(57,5),(58,6),(60,8),(61,9),(62,10)],[(52,0),(53,1),(57,5),(58,6),(60,8),(61,9),(62,10)],[(52,0),(53,1),(54,2),(57,5),(58,6),(60,8),(61,9),(62,10)],[(52,0),(53,1),(54,2),(55,3),(57,5),(58,6),(60,8),(61,9),(62,10)],[(52,0),(53,1),(54,2),(55,3),(56,4),(60,8),(61,9),(62,10)],[(52,0),(53,1),(54,2),(55,3),(56,4),(57,5),(60,8),(61,9),(62,10)],[(52,0),(53,1),(54,2),(55,3),(56,4),(57,5),(58,6),(60,8),(61,9),(62,10)],[(52,0),(53,1),(54,2),(55,3),(56,4),(57,5),(58,6),(59,7),(61,9)],[(52,0),(53,1),(54,2),(55,3),(56,4),(57,5),(58,6),(59,7),(60,8)],[(52,0),(53,1),(54,2),(55,3),(56,4),(57,5),(58,6),(59,7),(60,8),(61,9)],[(52,0),(53,1),(54,2),(55,3),(56,4),(57,5),(58,6),(59,7),(60,8),(61,9),(62,10)],[(52,0),(53,1),(54,2),(55,3),(56,4),(57,5),(58,6),(59,7),(60,8),(61,9),(62,10),(63,11)]] [(52,0),(53,1),(54,2),(55,3),(56,4),(57,5),(58,6),(59,7),(60,8),(61,9),(62,10),(63,11),(4,12)]
       [fun y v w=>v=.slice none 0 0,fun y v w=>v=.slice (some ⟨br,0,none⟩) X.length oc,fun y v w=>v=.int .i64 k,fun y v w=>v=.slice (some ⟨br,0,none⟩) k oc,fun y v w=>zD w B v L1∧(L1.length=0→v=.slice none 0 0),fun y v w=>v=.int .i64 X.length,fun y v w=>zD w B v [(X.length:Int)],fun y v w=>zD w B v (L1++[(X.length:Int)]),fun y v w=>v=.slice (some ⟨br,0,none⟩) X.length oc,fun y v w=>v=.int .i64 k,fun y v w=>v=.slice (if oc=k then some ⟨br,0,none⟩ else some ⟨br,k,none⟩) (X.length - k) (oc - k),fun y v w=>zD w B v (L1++[(X.length:Int)]++L2),fun y v w=>zD w B v (L1++[(X.length:Int)]++L2)]
       zk (fun h k=>Below.trans h k) (Below.refl _) kM.below kM.refl (fun _ _ _ _ _ h=>h) trivial HDREW.out zk
       ⟨fun i hi hnd y v w w' ht h=>h,fun i hi hnd y v w w' ht h=>h,fun i hi hnd y v w w' ht h=>h,fun i hi hnd y v w w' ht h=>h,fun i hi hnd y v w w' ht h=>⟨h.1.step ht (fun _=>by have:=HLL.out.1;omega) (fun _=>by have:=HLL.out.1;omega),h.2⟩,fun i hi hnd y v w w' ht h=>h,fun i hi hnd y v w w' ht h=>h.step ht (fun _=>by simp;omega) (fun _=>by simp),fun i hi hnd y v w w' ht h=>h.step ht (fun e=>absurd e hi) (fun _=>by have:=HLL.out.1;simp;omega),fun i hi hnd y v w w' ht h=>h,fun i hi hnd y v w w' ht h=>h,fun i hi hnd y v w w' ht h=>h,fun i hi hnd y v w w' ht h=>h.step ht (fun e=>by subst e;exact absurd hnd (by decide)) (fun e=>absurd e hi),fun i hi hnd y v w w' ht h=>h.step ht (fun e=>by subst e;exact absurd hnd (by decide)) (fun e=>by subst e;exact absurd hnd (by decide)),trivial⟩
       ⟨fun _ _ _ _ _ h=>h,fun _ _ _ _ _ h=>h,fun _ _ _ _ _ h=>h,fun _ _ _ _ _ h=>h,fun _ _ _ _ _ h=>h,fun _ _ _ _ _ h=>h,fun _ _ _ _ _ h=>h,fun _ _ _ _ _ h=>h,fun _ _ _ _ _ h=>h,fun _ _ _ _ _ h=>h,fun _ _ _ _ _ h=>h,fun _ _ _ _ _ h=>h,fun _ _ _ _ _ h=>h,trivial⟩
       ⟨?_,?_,?_,?_,?_,?_,?_,?_,?_,?_,?_,?_,?_,trivial⟩ rfl ?_
      ·intro y w2 hG hI hD K hK
       clear hI
       have hBs:B≤w2.heap.size:=Nat.le_trans HBB.out hG.size
       simp only[jD,Act.put,zq1,zq2,zq3,zq4,zq5] at hK⊢
       refine jF ?_
       go_simp
       exact hK _ _ _ rfl (kM.refl _ _) rfl
      ·intro y w2 hG hI hD K hK
       clear hI
       have hBs:B≤w2.heap.size:=Nat.le_trans HBB.out hG.size
       simp only[jD,Act.put,zq1,zq2,zq3,zq4,zq5] at hK⊢
       refine jF ?_
       go_simp
       exact hK _ _ _ rfl (kM.refl _ _) rfl
      ·intro y w2 hG hI hD K hK
       clear hI
       have hBs:B≤w2.heap.size:=Nat.le_trans HBB.out hG.size
       simp only[jD,Act.put,zq1,zq2,zq3,zq4,zq5] at hK⊢
       refine jF ?_
       go_simp
       exact hK _ _ _ rfl (kM.refl _ _) rfl
      ·intro y w2 hG hI hD K hK
       clear hI
       have hBs:B≤w2.heap.size:=Nat.le_trans HBB.out hG.size
       simp only[zB,zq4,zq5,and_true] at hD
       have h1:=hD.1
       have h2:=hD.2
       clear hD
       simp only[jD,Act.put,zq1,zq2,zq3,zq4,zq5] at hK⊢
       simp only[h1,h2] at hK⊢
       clear h1 h2
       refine jF ?_
       go_simp
       exact hK _ _ _ rfl (kM.refl _ _) rfl
      ·intro y w2 hG hI hD K hK
       clear hI
       have hBs:B≤w2.heap.size:=Nat.le_trans HBB.out hG.size
       simp only[zB,zq4,zq5,and_true] at hD
       have h0:=hD.1
       have h1:=hD.2.1
       have h2:=hD.2.2.1
       have h3:=hD.2.2.2
       clear hD
       simp only[jD,Act.put,zq1,zq2,zq3,zq4,zq5] at hK⊢
       simp only[h0,h1,h2,h3] at hK⊢
       clear h0 h1 h2 h3
       refine jF ?_
       refine kW _ _ rfl B (.slice none 0 0) [] rfl (zD.nil _ _) (.slice (some ⟨br,0,none⟩) k oc) L1 rfl (HROW1.out _ hG) (by have:=HLL.out;simp;omega) hBs (fun _=>rfl) ?_
       intro v' w' ho hk h0
       exact hK _ _ _ rfl ⟨hk.1,.inr (.inr (h0.2 rfl))⟩ ⟨by simpa using ho,fun h=>h0.1 (by simpa using h)⟩
      ·intro y w2 hG hI hD K hK
       clear hI
       have hBs:B≤w2.heap.size:=Nat.le_trans HBB.out hG.size
       simp only[jD,Act.put,zq1,zq2,zq3,zq4,zq5] at hK⊢
       refine jF ?_
       go_simp
       exact hK _ _ _ rfl (kM.refl _ _) rfl
      ·intro y w2 hG hI hD K hK
       clear hI
       have hBs:B≤w2.heap.size:=Nat.le_trans HBB.out hG.size
       simp only[zB,zq4,zq5,and_true] at hD
       have h5:=hD
       clear hD
       simp only[jD,Act.put,zq1,zq2,zq3,zq4,zq5] at hK⊢
       simp only[h5] at hK⊢
       clear h5
       refine jF ?_
       go_simp
       exact hK _ _ _ rfl (kM.grew hBs ((jC.refl _).alloc _)) (YT _ _ hBs _)
      ·intro y w2 hG hI hD K hK
       clear hI
       have hBs:B≤w2.heap.size:=Nat.le_trans HBB.out hG.size
       simp only[zB,zq4,zq5,and_true] at hD
       have h0:=hD.1
       have h1:=hD.2.1
       have h2:=hD.2.2.1
       have h3:=hD.2.2.2.1
       have h4:=hD.2.2.2.2.1
       have h5:=hD.2.2.2.2.2.1
       have h6:=hD.2.2.2.2.2.2
       clear hD
       simp only[jD,Act.put,zq1,zq2,zq3,zq4,zq5] at hK⊢
       simp only[h0,h1,h2,h3,h5] at hK⊢
       clear h0 h1 h2 h3 h5
       refine jF ?_
       refine kW _ _ rfl B (y 4) L1 rfl h4.1 (y 6) [(X.length:Int)] rfl h6.row (by have:=HLL.out;simp;omega) hBs h4.2 ?_
       intro v' w' ho hk _
       exact hK _ _ _ rfl ⟨hk.1,.inl ⟨rfl,by rw[← HLL.out.1];exact hk⟩⟩ ho
      ·intro y w2 hG hI hD K hK
       clear hI
       have hBs:B≤w2.heap.size:=Nat.le_trans HBB.out hG.size
       simp only[jD,Act.put,zq1,zq2,zq3,zq4,zq5] at hK⊢
       refine jF ?_
       go_simp
       exact hK _ _ _ rfl (kM.refl _ _) rfl
      ·intro y w2 hG hI hD K hK
       clear hI
       have hBs:B≤w2.heap.size:=Nat.le_trans HBB.out hG.size
       simp only[jD,Act.put,zq1,zq2,zq3,zq4,zq5] at hK⊢
       refine jF ?_
       go_simp
       exact hK _ _ _ rfl (kM.refl _ _) rfl
      ·intro y w2 hG hI hD K hK
       clear hI
       have hBs:B≤w2.heap.size:=Nat.le_trans HBB.out hG.size
       simp only[zB,zq4,zq5,and_true] at hD
       have h8:=hD.1
       have h9:=hD.2
       clear hD
       simp only[jD,Act.put,zq1,zq2,zq3,zq4,zq5] at hK⊢
       simp only[h8,h9] at hK⊢
       clear h8 h9
       refine jF ?_
       go_simp
       exact hK _ _ _ rfl (kM.refl _ _) rfl
      ·intro y w2 hG hI hD K hK
       clear hI
       have hBs:B≤w2.heap.size:=Nat.le_trans HBB.out hG.size
       simp only[zB,zq4,zq5,and_true] at hD
       have h0:=hD.1
       have h1:=hD.2.1
       have h2:=hD.2.2.1
       have h3:=hD.2.2.2.1
       have h4:=hD.2.2.2.2.1
       have h5:=hD.2.2.2.2.2.1
       have h6:=hD.2.2.2.2.2.2.1
       have h7:=hD.2.2.2.2.2.2.2.1
       have h8:=hD.2.2.2.2.2.2.2.2.1
       have h9:=hD.2.2.2.2.2.2.2.2.2.1
       have h10:=hD.2.2.2.2.2.2.2.2.2.2
       clear hD
       simp only[jD,Act.put,zq1,zq2,zq3,zq4,zq5] at hK⊢
       simp only[h0,h1,h2,h3,h5,h8,h9,h10] at hK⊢
       clear h0 h1 h2 h3 h5 h8 h9 h10
       refine jF ?_
       refine kW _ _ rfl B (y 7) (L1++[(X.length:Int)]) rfl h7 (.slice (if oc=k then some ⟨br,0,none⟩ else some ⟨br,k,none⟩) (X.length - k) (oc - k)) L2 rfl (HROW2.out _ hG) (by have:=HLL.out;simp;omega) hBs (fun h=>by simp at h) ?_
       intro v' w' ho hk _
       refine hK _ _ _ rfl ⟨hk.1,.inr (.inl ⟨rfl,?_⟩)⟩ ho
       have e:max (L1++[(X.length:Int)]).length 1=k+1:=by have:=HLL.out.1;simp;omega
       rw[e] at hk;exact hk
      ·intro y w2 hG hI hD K hK
       clear hI
       have hBs:B≤w2.heap.size:=Nat.le_trans HBB.out hG.size
       simp only[zB,zq4,zq5,and_true] at hD
       have h0:=hD.1
       have h1:=hD.2.1
       have h2:=hD.2.2.1
       have h3:=hD.2.2.2.1
       have h4:=hD.2.2.2.2.1
       have h5:=hD.2.2.2.2.2.1
       have h6:=hD.2.2.2.2.2.2.1
       have h7:=hD.2.2.2.2.2.2.2.1
       have h8:=hD.2.2.2.2.2.2.2.2.1
       have h9:=hD.2.2.2.2.2.2.2.2.2.1
       have h10:=hD.2.2.2.2.2.2.2.2.2.2.1
       have h11:=hD.2.2.2.2.2.2.2.2.2.2.2
       clear hD
       simp only[jD,Act.put,zq1,zq2,zq3,zq4,zq5] at hK⊢
       simp only[h0,h1,h2,h3,h5,h8,h9,h10] at hK⊢
       clear h0 h1 h2 h3 h5 h8 h9 h10
       refine jF ?_
       go_simp
       exact hK _ _ _ rfl (kM.refl _ _) h11
      ·intro y w2 hG hF
       simp only[qT,and_true,Nat.reduceAdd] at hF
       have h0:=hF.1
       have h1:=hF.2.1
       have h2:=hF.2.2.1
       have h3:=hF.2.2.2.1
       have h4:=hF.2.2.2.2.1
       have h5:=hF.2.2.2.2.2.1
       have h6:=hF.2.2.2.2.2.2.1
       have h7:=hF.2.2.2.2.2.2.2.1
       have h8:=hF.2.2.2.2.2.2.2.2.1
       have h9:=hF.2.2.2.2.2.2.2.2.2.1
       have h10:=hF.2.2.2.2.2.2.2.2.2.2.1
       have h11:=hF.2.2.2.2.2.2.2.2.2.2.2.1
       have h12:=hF.2.2.2.2.2.2.2.2.2.2.2.2
       clear hF
       simp only[jD,Act.put,zq1,zq2,zq3,zq4,zq5]
       simp only[h0,h1,h2,h3,h5,h8,h9,h10]
       clear h0 h1 h2 h3 h5 h8 h9 h10
       obtain⟨a12,c12,e12,_⟩:=jT h12
       rw[e12] at h12⊢
       have HF:Hid (jC w w2∧zD w2 w.heap.size (.slice a12 (L1++[(X.length:Int)]++L2).length c12) (y9 X')):=by
        have hgv:=HGV.out
        have hb:=HBV.out
        subst hb
        refine⟨hgv.trans hG,?_⟩
        have:=kX h12 hgv.size
        unfold zD
        rw[← HLX.out];exact this
       clear h4 h6 h7 h11 h12 hG e12
       go_wp2_with fail
       go_roundw
       case rel=>
        refine⟨X',by have:=HXL.out;omega,by rw[HXL.out];go_num,?_⟩
        have h1:=HORD.out
        rw[← HXL.out] at h1
        exact⟨h1,HF.out⟩
       case measure=>simp[intOf];omega
  ·have hXl:X.length=l.length:=by omega
   have hd:=JQ.done (l:=l) (X:=X) (by rw[← hXl];exact HW.out.1)
   have HD:=zh hd.2
   have HOW2:=zh HOW.out.row
   have hnl:¬(X.length:Int) < l.length:=by omega
   clear hXl hd
   go_wp2_with fail
   go_ret2
   exact⟨HW.out.2.1,.slice oa X.length oc,by rw[HD.out];rfl,by rw[HD.out];exact HOW2.out⟩
end Go.Proofs.Ytfbeepkogcmlmaa
