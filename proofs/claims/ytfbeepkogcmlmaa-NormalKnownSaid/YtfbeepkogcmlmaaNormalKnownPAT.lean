/-
  Texts of the proof.
-/
import Derived.Test.YtfbeepkogcmlmaaNormalKnownPAR
import Derived.Test.YtfbeepkogcmlmaaNormalKnownPAQ
import Derived.Test.YtfbeepkogcmlmaaNormalKnownPAS
set_option linter.unusedVariables false
set_option linter.unusedSimpArgs false
set_option maxHeartbeats 16000000
set_option maxRecDepth 100000
namespace Go.Proofs.Ytfbeepkogcmlmaa
open Go Go.ChangeShapes Go.WideShapes Go.ChangeAt Go.RowKit Go.Joins Go.Deep
def qB (keys:List ByteArray):List (ByteArray × Nat):=yC (keys.zip (List.range keys.length))
theorem VH {keys:List ByteArray} {p:ByteArray × Nat} (h:p∈qB keys):keys[p.2]? = some p.1:=by
 have h2:=(yF _).mem_iff.1 h
 obtain⟨i,hi⟩:=List.getElem?_of_mem h2
 rw[List.getElem?_zip_eq_some] at hi
 obtain⟨h3,h4⟩:=hi
 rw[List.getElem?_range (by have:=(List.getElem?_eq_some_iff.1 h3).1;omega)] at h4
 injection h4 with h4
 rw[← h4];exact h3
theorem VI (keys:List ByteArray):(qB keys).length=keys.length:=by
 unfold qB
 rw[(yF _).length_eq]
 simp
theorem QQ {keys:List ByteArray} (h:keys.Nodup):QK keys=((qB keys).map fun p=>(p.2:Int),0):=by
 unfold QK
 rw[if_pos h];rfl
theorem YU {n u:Int} {s:ByteArray} {keys:List ByteArray} {l:List Tr} (h:keys.length=l.length) (z:Tr) :
 kB (.mk 17 n u s keys l)=.mk 17 n u s ((qB keys).map Prod.fst) ((qB keys).map fun p=>kB (l.getD p.2 z)):=by
 have h1:=vL (fun i=>kB (l.getD i z)) (keys.zip (List.range keys.length))
 have h2:(keys.zip (List.range keys.length)).map (fun p=>(p.1,kB (l.getD p.2 z)))=keys.zip (zV l):=by
  rw[k7]
  apply List.ext_getElem?
  intro i
  rw[List.getElem?_map]
  cases hk:keys[i]? with
  | none=>
   have e1:(keys.zip (List.range keys.length))[i]? = none:=by
    rw[List.getElem?_eq_none_iff] at hk⊢
    simp;omega
   have e2:(keys.zip (l.map kB))[i]? = none:=by
    rw[List.getElem?_eq_none_iff] at hk⊢
    simp;omega
   rw[e1,e2];rfl
  | some q=>
   have hi:=(List.getElem?_eq_some_iff.1 hk).1
   have e1:(keys.zip (List.range keys.length))[i]? = some (q,i):=by
    rw[List.getElem?_zip_eq_some]
    exact⟨hk,by rw[List.getElem?_range hi]⟩
   have hl:l[i]? = some (l[i]'(by omega)):=List.getElem?_eq_getElem (by omega)
   have e2:(keys.zip (l.map kB))[i]? = some (q,kB (l[i]'(by omega))):=by
    rw[List.getElem?_zip_eq_some]
    exact⟨hk,by rw[List.getElem?_map,hl];rfl⟩
   rw[e1,e2]
   simp[List.getD_eq_getElem?_getD,hl]
 rw[h2] at h1
 rw[kB,if_pos rfl,← h1]
 unfold qB
 simp[List.map_map,Function.comp_def]
theorem bR {W w w4 w5 w6:World} {kv lv lv' xv:Value} {ks:List ByteArray} {ts:List Tr} {x:Tr} (h0:jC W w) (h1:kD w W.heap.size kv ks) (h2:∀g,kv.ownBlock=some g→lv.ownBlock≠some g) (vs:List Value) (S:Nat→Prop) (h3:kK w W.heap.size lv vs) (h4:j4 w W.heap.size ts vs S)
 (h5:∀g,S g→W.heap.size≤g∧g < w.heap.size∧lv.ownBlock≠some g∧kv.ownBlock≠some g) (hx:jW w4 w.heap.size x xv (jX w w4)) (hg4:jC w w4) (hga:jC w4 w5) (kE:kK w6 W.heap.size lv' (vs++[xv])) (hgr:w5.grownBy w6 lv.ownBlock) (hn:vW w5 lv.ownBlock lv'.ownBlock):KR W w6 kv lv' ks (ts++[x]):=by
 have hm:Moved (fun k=>some k=lv.ownBlock) w5 w6:=Moved.of_grown hgr
 have hs0:=h0.size
 have hs1:=hg4.size
 have hs2:=hga.size
 have hs3:=hm.size
 have hlt:∀g,lv.ownBlock=some g→W.heap.size≤g∧g < w.heap.size:=fun g hg=>World.ownsRow.lt h3.1 g hg
 have hkt:∀g,kv.ownBlock=some g→W.heap.size≤g∧g < w.heap.size:=fun g hg=>World.ownsRow.lt h1 g hg
 have k1:j4 w6 W.heap.size ts vs S:=((h4.grew hg4).grew hga).kept hm (fun g hS e=>(h5 g hS).2.2.1 e.symm)
 have k2:jW w6 W.heap.size x xv (jX w w4):=((hx.grew hga).kept hm (fun g hS e=>by have:=hlt g e.symm;have:=hS.1;omega)).base hs0
 refine⟨Moved.fresh ((h0.trans hg4).trans hga) hm (fun g e=>(hlt g e.symm).1),Moved.owns hm ((h1.grew' hg4).grew' hga) (fun g hg e=>h2 g hg e.symm),fun g hg hl=>?_,vs++[xv],fun g=>S g∨jX w w4 g,kE,k1.app (j4.one k2) (fun g hS hF=>by have:=(h5 g hS).2.1;have:=hF.1;omega),fun g hS=>?_⟩
 ·rcases hn g hl with e|e
  ·exact h2 g hg e
  ·have:=(hkt g hg).2;omega
 ·have hb:W.heap.size≤g∧g < w4.heap.size:=by
   rcases hS with hS|hS
   ·have:=h5 g hS;omega
   ·exact⟨Nat.le_trans hs0 hS.1,hS.2⟩
  refine⟨hb.1,by omega,fun e=>?_,fun e=>?_⟩
  ·rcases hn g e with e|e
   ·rcases hS with hS|hS
    ·exact (h5 g hS).2.2.1 e
    ·have:=hlt g e;have:=hS.1;omega
   ·omega
  ·rcases hS with hS|hS
   ·exact (h5 g hS).2.2.2 e
   ·have:=hkt g e;have:=hS.1;omega
def KidA (w0:World) (x:Tr) (v:Value) (w:World):Prop:=∃wa,jC w0 wa∧jW w wa.heap.size x v (jX wa w)∧jC wa w
def KidB (w0:World) (x:Tr) (v:Value) (w:World):Prop:=∃wa yv g,jC w0 wa∧jW w wa.heap.size x yv (jX wa w)∧jC wa w∧v=.slice (some ⟨g,0,none⟩) 1 1∧w.heap[g]? = some (rowN yv)
theorem KidA.st (w0:World) (x:Tr):∀v w w',jC w w'→KidA w0 x v w→KidA w0 x v w':=fun v w w' hg ⟨wa,h1,h2,h3⟩=>⟨wa,h1,(h2.grew hg).mono (fun g hh=>⟨hh.1,Nat.lt_of_lt_of_le hh.2 hg.size⟩),h3.trans hg⟩
theorem KidB.st (w0:World) (x:Tr):∀v w w',jC w w'→KidB w0 x v w→KidB w0 x v w':=fun v w w' hg ⟨wa,yv,g,h1,h2,h3,h4,h5⟩=>⟨wa,yv,g,h1,(h2.grew hg).mono (fun g hh=>⟨hh.1,Nat.lt_of_lt_of_le hh.2 hg.size⟩),h3.trans hg,h4,hg.heap h5⟩
theorem aP:∀(m:Nat) (t:Tr),t.size≤m→∀(b:Nat),qG b t→t.size≤4096→∀(v:Value) (w:World),jL w t v→Calls Try.prog 50 #[v] w fun r w'=>∃v',r=.returned v'∧jW w' w.heap.size (kB t) v' (jX w w')∧jC w w':=by
 intro m
 induction m with
 | zero=>intro t ht;have:=t.size_pos;omega
 | succ m ih=>
  intro t hm b hv hfew v w hn
  obtain⟨k,n,u,s,keys,l⟩:=t
  have hvf:=ZP hv
  have hvl:=valL_iff.1 hv.2.2.2
  have HVL:=zh hvl
  have hnd:keys.Nodup:=(JA keys [] (by have:=hv.2.2.1;rw[keyed_iff] at this;exact this.2)).1
  have HND:=zh hnd
  obtain⟨hb,kv,lv,vs,rfl,hks,hrl,hkd⟩:=hn
  have hkl:=hkd.length
  have HKD:=zh hkd
  have HKS:=zh hks
  obtain⟨a4,c4,rfl,hk1,hk2,hk3,hkz⟩:=hks
  have HRL:=zh hrl
  obtain⟨a5,c5,rfl,hl1,hl2,hl3,hl4⟩:=hrl
  rw[hkl] at HRL hl1⊢
  have kV:l.length≤4096:=by have:=yM l;have:=hfew;simp only[Tr.size] at this;omega
  have hlc:(l.length:Int)≤c5:=by omega
  have HSZ:Hid (∀x∈l,x.size≤m∧x.size≤4096):=fun x hx=>by have:=k9 hx;simp only[Tr.size] at hm hfew;omega
  have HVF:=zh hvf
  have HB:=zh hb
  have HKZ:Hid (∀q∈keys,jI q.size):=fun q hq=>by
   obtain⟨i,hi⟩:=List.getElem?_of_mem hq
   exact (hkz i q hi).1
  clear hk1 hk2 hk3 hkz hl1 hl2 hl3 hl4 hkl hkd hv hvl hvf hb hm hfew hnd
  have hrt:=heap_alloc_new w (.cells #[.int .i64 k,.int .i64 n,.int .u64 u,.string s,.slice a4 keys.length c4,.slice a5 l.length c5] 26)
  have hga:=(jC.refl w).alloc (.cells #[.int .i64 k,.int .i64 n,.int .u64 u,.string s,.slice a4 keys.length c4,.slice a5 l.length c5] 26)
  have hz1:(w.alloc (.cells #[.int .i64 k,.int .i64 n,.int .u64 u,.string s,.slice a4 keys.length c4,.slice a5 l.length c5] 26)).heap.size=w.heap.size+1:=World.size_alloc _ _
  go_enter Try.func50,Try.ntmps50
  go_upto_region 1 with fail
  obtain⟨pr,hpr⟩:∃N,w.heap.size=N:=⟨_,rfl⟩
  generalize (w.alloc (.cells #[.int .i64 k,.int .i64 n,.int .u64 u,.string s,.slice a4 keys.length c4,.slice a5 l.length c5] 26))=x0 at *
  rw[hpr] at hrt hz1
  try rw[hpr]
  have HPR:=zh hpr
  have hre:=heap_alloc_new x0 (.cells #[.int .i64 0,.int .i64 0,.int .u64 0,.string ⟨#[]⟩,.slice none 0 0,.slice none 0 0] 26)
  have hgb:=(jC.refl x0).alloc (.cells #[.int .i64 0,.int .i64 0,.int .u64 0,.string ⟨#[]⟩,.slice none 0 0,.slice none 0 0] 26)
  have hz2:(x0.alloc (.cells #[.int .i64 0,.int .i64 0,.int .u64 0,.string ⟨#[]⟩,.slice none 0 0,.slice none 0 0] 26)).heap.size=pr+2:=by rw[World.size_alloc,hz1]
  rw[hz1] at hre
  generalize (x0.alloc (.cells #[.int .i64 0,.int .i64 0,.int .u64 0,.string ⟨#[]⟩,.slice none 0 0,.slice none 0 0] 26))=xa at *
  try rw[hz1]
  replace hrt:=hgb.heap hrt
  replace hga:=hga.trans hgb
  clear hgb hz1
  have HRTA:=zh hrt
  have d0:=jA HRTA.out 0 _ rfl
  have d1:=jA HRTA.out 1 _ rfl
  have d2:=jA HRTA.out 2 _ rfl
  have d3:=jA HRTA.out 3 _ rfl
  have d4:=jA HRTA.out 4 _ rfl
  have d5:=jA HRTA.out 5 _ rfl
  go_upto_region 2 with fail
  clear d0 d1 d2 d3 d4 d5 HRTA
  have hro:=heap_alloc_new xa (.cells #[.int .i64 k,.int .i64 n,.int .u64 u,.string s,.slice none 0 0,.slice none 0 0] 26)
  have hgb:=(jC.refl xa).alloc (.cells #[.int .i64 k,.int .i64 n,.int .u64 u,.string s,.slice none 0 0,.slice none 0 0] 26)
  have hz3:(xa.alloc (.cells #[.int .i64 k,.int .i64 n,.int .u64 u,.string s,.slice none 0 0,.slice none 0 0] 26)).heap.size=pr+3:=by rw[World.size_alloc,hz2]
  rw[hz2] at hro
  generalize (xa.alloc (.cells #[.int .i64 k,.int .i64 n,.int .u64 u,.string s,.slice none 0 0,.slice none 0 0] 26))=x1 at *
  try rw[hz2]
  have HRT:=zh (hgb.heap hrt)
  have HRE:=zh (hgb.heap hre)
  have HRO:=zh hro
  have HG:=zh (hga.trans hgb)
  have HZ2:Hid (pr+3≤x1.heap.size):=Nat.le_of_eq hz3.symm
  clear hrt hro hre hga hgb hz2 hz3 hpr
  have d0:=jA HRT.out 0 _ rfl
  have d1:=jA HRT.out 1 _ rfl
  have d2:=jA HRT.out 2 _ rfl
  have d3:=jA HRT.out 3 _ rfl
  have d4:=jA HRT.out 4 _ rfl
  have d5:=jA HRT.out 5 _ rfl
  by_cases hk17:k=17
  rotate_left
  ·have hbk:(k != 17)=true:=by simpa using hk17
   have HKE:Hid (keys=[]):=HVF.out.2.2.2.2.1 hk17
   have HST:Hid (kB (.mk k n u s keys l)=.mk k n u s [] (zV l)):=by show _=_;rw[kB,if_neg hk17,HKE.out]
   clear hk17
   clear d1 d2 d3 d4 d5
   go_wp2_with fail
   clear d0
   go_loopw [4,5] (fun v i wr=>∃kk:Nat,kk≤l.length∧i=.int .i64 kk∧Hid (zI (fun _=>False) x1 wr v ((l.take kk).map kB))) (fun _ i _=>l.length - (intOf i).toNat)
   case atStart=>exact⟨0,Nat.zero_le _,rfl,by show zI _ _ _ _ _;exact zI.start _ _⟩
   case round=>
    obtain⟨kk,hkk,rfl,HW⟩:=hrel
    have hgw:jC x1 wr:=by obtain⟨_,_,_,_,_,hm⟩:=HW.out;exact Moved.fresh (jC.refl _) hm (fun g h=>h.elim)
    have HGW:=zh hgw
    have HRTW:=zh (hgw.heap HRT.out)
    have kJ:=zh (hgw.heap HRO.out)
    have HREW:=zh (hgw.heap HRE.out)
    clear hgw
    have HGA:=zh (HG.out.trans HGW.out)
    by_cases hlt:kk < l.length
    ·obtain⟨x,hx⟩:∃x,l[kk]? = some x:=⟨_,List.getElem?_eq_getElem hlt⟩
     obtain⟨xv,hxv,hnx⟩:=HKD.out.get hx
     have hxm:x∈l:=List.mem_of_getElem? hx
     have HX:=zh (show (l.take kk).map kB++[kB x]=(l.take (kk+1)).map kB by rw[List.take_add_one,hx];simp)
     have HXS:=zh (HSZ.out x hxm)
     have HXV:=zh (HVL.out x hxm)
     obtain⟨kb,ko,rfl,hc6⟩:∃b off,a5=some ⟨b,off,none⟩∧kQ wr b (off+kk*6) xv:=by
      obtain⟨a,c,e,_,_,_,h⟩:=HRL.out
      injection e with e1 e2 e3
      subst e1
      obtain⟨b,off,e,h6⟩:=h kk xv hxv
      exact⟨b,off,e,h6.grew HGA.out⟩
     obtain⟨xk,xn,xu,xs,xa4,xn4,xc4,xa5,xn5,xc5,rfl⟩:=hnx.node6
     obtain⟨f0,f1,f2,f3,f4,f5⟩:=hc6.get
     have HNX:=zh (hnx.grew HGA.out)
     have e5:=jA HRTW.out 5 _ rfl
     have yD:(kk:Int) < l.length:=by omega
     clear hc6 hx hxv hnx hxm
     go_wp2_with fail
     refine (ih x HXS.out.1 _ HXV.out HXS.out.2 _ wr HNX.out).mono ?_
     rintro r w4 ⟨xv,rfl,hox,hg4⟩
     clear f0 f1 f2 f3 f4 f5 e5
     obtain⟨yk,yn,yu,ys,ya4,yn4,yc4,ya5,yn5,yc5,rfl⟩:=hox.node6
     have HOX:=zh hox
     have HG4:=zh hg4
     obtain⟨vs4,S4,q1,q2,q3,q4⟩:=HW.out
     obtain⟨ga,gc,rfl,hz1,hz2,hz3⟩:=HW.out.form
     have HV4:Hid (vs4.length≤4096):=by show _≤_;rw[q2.length,List.length_map,List.length_take];omega
     have HQ1:=zh q1
     have HQ2:=zh q2
     have HQ3:=zh q3
     have HQ4:=zh q4
     have HON:Hid (∀o,kK (w4.alloc o) x1.heap.size (.slice ga ((l.take kk).map kB).length gc) vs4):=fun o=>(q1.grew hg4).grew ((jC.refl _).alloc o)
     have HSZ4:Hid (∀o,x1.heap.size≤(w4.alloc o).heap.size):=fun o=>Nat.le_trans (Nat.le_trans HGW.out.size hg4.size) ((jC.refl w4).alloc o).size
     clear q1 q2 q3 q4 hz1 hz2 hz3 hox hg4 HW
     generalize (l.take kk).map kB=L at *
     go_wp2_with (at_builtin;refine zL rfl _ _ rfl x1.heap.size _ vs4 rfl (HON.out _) _ _ (.agg #[.int .i64 yk,.int .i64 yn,.int .u64 yu,.string ys,.slice ya4 yn4 yc4,.slice ya5 yn5 yc5]) rfl (heap_alloc_new _ _) ⟨_,_,_,_,_,_,_,_,_,_,rfl⟩ (by have:=HV4.out;omega) (HSZ4.out _) ?_;intro v' w5 kE hgr hnx;obtain⟨va2,vc2,rfl,hz1,hz2,hz3⟩:=jT kE.1;have HG5:=zh (zI.step (R:=fun _=>False) (fun g h=>h.elim) vs4 S4 HQ2.out HQ1.out HQ3.out HQ4.out HOX.out (Moved.of_grew HG4.out) _ kE hgr hnx);clear kE hgr hnx hz1 hz2 hz3)
     go_roundw
     case rel=>
      refine⟨kk+1,by omega,by go_num,?_⟩
      show zI _ _ _ _ _
      rw[← HX.out]
      have hh:=HG5.out
      rw[List.length_append] at hh
      exact hh
     case measure=>simp[intOf];omega
    ·have ek:kk=l.length:=by omega
     subst ek
     have e5:=jA HRTW.out 5 _ rfl
     have hw:=HW.out
     rw[List.take_length,← k7] at hw
     obtain⟨ga,gc,hfm,hz1,hz2,hz3⟩:=hw.form
     subst hfm
     have hll:(zV l).length=l.length:=by rw[k7,List.length_map]
     rw[hll] at hw⊢
     have ht:=hw.tree (w0:=x1) (k:=k) (n:=n) (u:=u) (s:=s) (keys:=[]) (kv:=.slice none 0 0) ⟨HB.out.1,HB.out.2.1,HB.out.2.2.1,HB.out.2.2.2,fun _ h=>by cases h⟩ (Nat.le_refl _) (kD.nil _ _) (fun g h=>by cases h)
     have hm:Moved (fun g=>g=pr+2) wr (wr.setCell ⟨pr+2,5,none⟩ (.slice ga l.length gc)):=Moved.setCell (S:=fun g=>g=pr+2) (p:=⟨pr+2,5,none⟩) (Moved.refl _ wr) (fun _=>rfl) _
     obtain⟨wf,hwf⟩:∃W,wr.setCell ⟨pr+2,5,none⟩ (.slice ga l.length gc)=W:=⟨_,rfl⟩
     have hrf:wf.heap[pr+2]? = some (.cells #[.int .i64 k,.int .i64 n,.int .u64 u,.string s,.slice none 0 0,.slice ga l.length gc] 26 (0,0)):=by rw[← hwf];have:=heap_setCell_same wr (pr+2) 5 _ _ (.slice ga l.length gc) kJ.out;simpa using this
     rw[hwf] at hm
     have hef:=hm.heap HREW.out (fun e=>by omega)
     have HFN:Hid (∃v',Ending.returned (.agg #[.int .i64 k,.int .i64 n,.int .u64 u,.string s,.slice none 0 0,.slice ga l.length gc])=.returned v'∧jW (jH wf (pr+1) (.int .i64 k) (.int .i64 n) (.int .u64 u) (.string s) (.slice none 0 0) (.slice ga l.length gc)) w.heap.size (kB (.mk k n u s keys l)) v' (jX w (jH wf (pr+1) (.int .i64 k) (.int .i64 n) (.int .u64 u) (.string s) (.slice none 0 0) (.slice ga l.length gc)))∧jC w (jH wf (pr+1) (.int .i64 k) (.int .i64 n) (.int .u64 u) (.string s) (.slice none 0 0) (.slice ga l.length gc))):=by
      have h2:=HZ2.out
      have hmz:=hm.size
      rw[HST.out]
      exact k0 HPR.out (by omega) ((ht.kept hm (fun g hg e=>by have h1:=hg.1;omega)).mono (fun g hg=>⟨hg.1,by have h1:=hg.2;omega⟩)) (Moved.fresh HGA.out hm (fun g e=>by have h1:=HPR.out;omega)) _ _ _ _ _ _
     have o0:=jA kJ.out 0 _ rfl
     have o1:=jA kJ.out 1 _ rfl
     have o2:=jA kJ.out 2 _ rfl
     have o3:=jA kJ.out 3 _ rfl
     have o4:=jA kJ.out 4 _ rfl
     have o5:=jA kJ.out 5 _ rfl
     have q0:=jB kJ.out 0
     have q1:=jB kJ.out 1
     have q2:=jB kJ.out 2
     have q3:=jB kJ.out 3
     have q4:=jB kJ.out 4
     have q5:=jB kJ.out 5
     clear hw HW ht hm hz1 hz2 hz3 hll hlt
     go_upto_region 9 with fail
     try rw[hwf]
     clear o0 o1 o2 o3 o4 o5 q0 q1 q2 q3 q4 q5
     have o0:=jA hrf 0 _ rfl
     have o1:=jA hrf 1 _ rfl
     have o2:=jA hrf 2 _ rfl
     have o3:=jA hrf 3 _ rfl
     have o4:=jA hrf 4 _ rfl
     have o5:=jA hrf 5 _ rfl
     have z0:=jA hef 0 _ rfl
     have z1:=jA hef 1 _ rfl
     have z2:=jA hef 2 _ rfl
     have z3:=jA hef 3 _ rfl
     have z4:=jA hef 4 _ rfl
     have z5:=jA hef 5 _ rfl
     have q0:=jB hef 0
     have q1:=jB hef 1
     have q2:=jB hef 2
     have q3:=jB hef 3
     have q4:=jB hef 4
     have q5:=jB hef 5
     clear hrf hef hwf
     go_wp2_with fail
     refine bodyPost_ret (v:=.agg #[.int .i64 k,.int .i64 n,.int .u64 u,.string s,.slice none 0 0,.slice ga l.length gc]) (by simp[results,Try.results50,go_sem,z0,z1,z2,z3,z4,z5]) rfl ?_
     exact HFN.out
  ·subst hk17
   have HKL:Hid (keys.length=l.length):=HVF.out.2.2.2.2.2.2 rfl
   have hkl4:keys.length≤4096:=by rw[HKL.out];exact kV
   have HKL4:=zh hkl4
   obtain⟨zt,hzt⟩:∃z:Tr,z=.mk 1 0 0 ⟨#[]⟩ [] []:=⟨_,rfl⟩
   have HST:=zh (YU (n:=n) (u:=u) (s:=s) HKL.out zt)
   have HPL:=zh (VI keys)
   have hord:=VG keys hkl4 (.slice a4 keys.length c4)
   rw[QQ HND.out] at hord
   have HORD:=zh hord
   have HPG:Hid (∀p∈qB keys,keys[p.2]? = some p.1):=fun p hp=>VH hp
   clear hord hkl4 hzt
   generalize qB keys=Q at *
   go_wp2_with fail
   refine (HORD.out x1 (HKS.out.grew HG.out)).mono ?_
   rintro r x2 ⟨hgc,pv,rfl,jP⟩
   have HROWI:=zh jP
   obtain⟨pa,pc,rfl,_,_,_,_⟩:=jP
   clear d0 d1 d2 d3 d4 d5
   replace HRT:=zh (hgc.heap HRT.out)
   replace HRO:=zh (hgc.heap HRO.out)
   replace HRE:=zh (hgc.heap HRE.out)
   have HGX:=HG
   have HC:=zh hgc
   replace HG:=zh (HGX.out.trans hgc)
   clear hgc
   simp only[List.length_map]
   go_wp2_with fail
   go_loopw [8,9,10] (fun kv v i wr=>∃kk:Nat,kk≤Q.length∧i=.int .i64 kk∧Hid (KR x2 wr kv v ((Q.take kk).map Prod.fst) ((Q.take kk).map fun p=>kB (l.getD p.2 zt)))) (fun _ _ i _=>Q.length - (intOf i).toNat)
   case atStart=>exact⟨0,Nat.zero_le _,rfl,by show KR _ _ _ _ _ _;exact KR.start _⟩
   case round=>
    obtain⟨kk,hkk,rfl,HW⟩:=hrel
    have HGW:=zh HW.out.1
    have HGA:=zh (HG.out.trans HGW.out)
    have HRTW:=zh (HGW.out.heap HRT.out)
    have kJ:=zh (HGW.out.heap HRO.out)
    have HREW:=zh (HGW.out.heap HRE.out)
    by_cases hlt:kk < Q.length
    ·obtain⟨⟨q,j⟩,hx⟩:∃p,Q[kk]? = some p:=⟨_,List.getElem?_eq_getElem hlt⟩
     have hkq:keys[j]? = some q:=HPG.out _ (List.mem_of_getElem? hx)
     have hjk:=(List.getElem?_eq_some_iff.1 hkq).1
     have hjl:j < l.length:=by rw[← HKL.out];exact hjk
     obtain⟨x,hxl⟩:∃x,l[j]? = some x:=⟨_,List.getElem?_eq_getElem hjl⟩
     have HX1:=zh (show (Q.take kk).map Prod.fst++[q]=(Q.take (kk+1)).map Prod.fst by rw[List.take_add_one,hx];simp)
     have HX2:=zh (show (Q.take kk).map (fun p=>kB (l.getD p.2 zt))++[kB x]=(Q.take (kk+1)).map (fun p=>kB (l.getD p.2 zt)) by rw[List.take_add_one,hx];simp[List.getD_eq_getElem?_getD,hxl])
     obtain⟨_,pb,po,hpa,hcp⟩:=(by obtain⟨_,_,e,_,_,_,h⟩:=HROWI.out;cases e;exact h kk (j:Int) (by rw[List.getElem?_map,hx];rfl):True∧∃b off,pa=some ⟨b,off,none⟩∧x2.cell? ⟨b,off+kk,none⟩=some (.int .i64 (j:Int)))
     subst hpa
     obtain⟨hqz,kb,ko,hka,hck⟩:=(by obtain⟨_,_,e,_,_,_,h⟩:=HKS.out;cases e;exact h j q hkq:jI q.size∧∃b off,a4=some ⟨b,off,none⟩∧w.cell? ⟨b,off+j,none⟩=some (.string q))
     subst hka
     have cp:=HGW.out.cell hcp
     have ck:=HGA.out.cell hck
     have yD:(kk:Int) < Q.length:=by omega
     have hjki:(j:Int) < keys.length:=by omega
     have hjli:(j:Int) < l.length:=by omega
     obtain⟨xv,hxv,hnx⟩:=HKD.out.get hxl
     have hxm:x∈l:=List.mem_of_getElem? hxl
     have HXS:=zh (HSZ.out x hxm)
     have HXV:=zh (HVL.out x hxm)
     have HQZ:=zh hqz
     obtain⟨lb,lo,hla,hc6⟩:∃b off,a5=some ⟨b,off,none⟩∧kQ w b (off+j*6) xv:=by
      obtain⟨a,c,e,_,_,_,h⟩:=HRL.out
      injection e with e1 e2 e3
      subst e1
      exact h j xv hxv
     subst hla
     obtain⟨xk,xn,xu,xs,xa4,xn4,xc4,xa5,xn5,xc5,rfl⟩:=hnx.node6
     have HC6:=zh hc6
     have HNX:=zh hnx
     have HCP:=zh hcp
     obtain⟨ka,kc,hkf,_,_,_⟩:=jT HW.out.2.1
     subst hkf
     have HKN:Hid (((Q.take kk).map Prod.fst).length=kk):=by show _=_;rw[List.length_map,List.length_take];omega
     have HLN:Hid (((Q.take kk).map fun p=>kB (l.getD p.2 zt)).length=kk):=by show _=_;rw[List.length_map,List.length_take];omega
     have HQ4:Hid (kk < 4096):=by have:=HPL.out;have:=HKL4.out;show _ < _;omega
     have d4:=jA HRTW.out 4 _ rfl
     clear hc6 hxl hxv hnx hxm hcp hqz hkq hx kJ
     generalize (Q.take kk).map Prod.fst=K at *
     generalize (Q.take kk).map (fun p=>kB (l.getD p.2 zt))=L at *
     go_wp2_with fail
     refine qJ jC 10 [[],[],[1],[],[],[3,4],[3,4,5],[1,2,3,4,5,6],[1,2,3,4,5,6,7],[1,2,3,4,5,6,7,8],[0,1,2,3,4,5,6,7,8,9],[0,1,2,3,4,5,6,7,8,9,10]] [[(55,1),(56,2),(57,3),(58,4),(59,5),(60,6),(61,7),(62,8),(63,9)],[(54,0),(57,3),(58,4),(59,5),(60,6)],[(54,0),(55,1),(57,3),(58,4),(59,5),(60,6)],[(54,0),(55,1),(56,2),(58,4)],[(54,0),(55,1),(56,2),(57,3)],[(54,0),(55,1),(56,2),(57,3),(58,4)],[(54,0),(55,1),(56,2),(57,3),(58,4),(59,5)],[(54,0),(55,1),(56,2),(57,3),(58,4),(59,5),(60,6)],[(54,0),(55,1),(56,2),(57,3),(58,4),(59,5),(60,6),(61,7)],[(54,0),(55,1),(56,2),(57,3),(58,4),(59,5),(60,6),(61,7),(62,8)],[(54,0),(55,1),(56,2),(57,3),(58,4),(59,5),(60,6),(61,7),(62,8),(63,9)],[(54,0),(55,1),(56,2),(57,3),(58,4),(59,5),(60,6),(61,7),(62,8),(63,9),(64,10)]] [(54,0),(55,1),(56,2),(57,3),(58,4),(59,5),(60,6),(61,7),(62,8),(63,9)]
      [Is (.slice ka K.length kc),Is (.pointer (some ⟨pr,4,none⟩)),Is (.slice (some ⟨kb,ko,none⟩) keys.length c4),Is (.slice (some ⟨pb,po,none⟩) Q.length pc),Is (.int .i64 kk),Is (.pointer (some ⟨pb,po+kk,none⟩)),Is (.int .i64 j),Is (.pointer (some ⟨kb,ko+j,none⟩)),Is (.string q),fun v w=>kO w v [q]]
      zk jC.trans jC.refl (jC.refl _).drew zk ⟨jG,jG,jG,jG,jG,jG,jG,jG,jG,fun _ _ _ hg h=>kO.grew h hg,trivial⟩ rfl ?_ ?_
     rotate_left
     ·intro y w2 hG hF
      simp only[zH,Is,and_true,Nat.reduceAdd] at hF
      have h0:=hF.1
      have h1:=hF.2.1
      have h2:=hF.2.2.1
      have h3:=hF.2.2.2.1
      have h4:=hF.2.2.2.2.1
      have h5:=hF.2.2.2.2.2.1
      have h6:=hF.2.2.2.2.2.2.1
      have h7:=hF.2.2.2.2.2.2.2.1
      have h8:=hF.2.2.2.2.2.2.2.2.1
      have h9:=hF.2.2.2.2.2.2.2.2.2
      clear hF
      simp only[jD,Act.put,zq1,zq2,zq3,zq4,zq5,List.drop_succ_cons,List.drop_zero]
      simp only[h0,h1,h2,h3,h4,h5,h6,h7,h8]
      clear h0 h1 h2 h3 h4 h5 h6 h7 h8
      have HGD:=zh hG
      have HST9:=zh h9
      clear hG h9
      have HON:Hid (kD w2 x2.heap.size (.slice ka K.length kc) K):=HW.out.2.1.grew' HGD.out
      have HSZ4:Hid (x2.heap.size≤w2.heap.size):=Nat.le_trans HGW.out.size HGD.out.size
      go_wp2_with (at_builtin;refine yN rfl _ _ rfl x2.heap.size (.slice ka K.length kc) K rfl HON.out _ [q] rfl HST9.out (by have:=HKN.out;have:=HQ4.out;simp;omega) HSZ4.out ?_;intro v' w5 kE hgr hnx;obtain⟨va2,vc2,rfl,hz1,hz2,hz3⟩:=jT kE;have HW5:=zh (HW.out.key HGD.out kE hgr hnx);clear kE hgr hnx hz1 hz2 hz3)
      have HG5:=zh HW5.out.1
      have cp5:=HG5.out.cell HCP.out
      have e5:=jA (HG5.out.heap HRT.out) 5 _ rfl
      clear cp ck d4
      have HGA5:=zh (HG.out.trans HG5.out)
      obtain⟨f0,f1,f2,f3,f4,f5⟩:=(HC6.out.grew HGA5.out).get
      obtain⟨h0,h1,h2,vs5,S5,h3,h4,h5⟩:=HW5.out
      obtain⟨ga,gc,hgf,hz1,hz2,hz3⟩:=jT h3.1
      subst hgf
      have HV5:Hid (vs5.length=L.length):=h4.length
      have HT0:=zh h0
      have HT1:=zh h1
      have HT2:=zh h2
      have HT3:=zh h3
      have HT4:=zh h4
      have HT5:=zh h5
      clear h0 h1 h2 h3 h4 h5 hz1 hz2 hz3
      go_wp2_with fail
      refine qJ jC 11 [[],[],[1],[],[],[3,4],[3,4,5],[1,2,3,4,5,6],[1,2,3,4,5,6,7],[1,2,3,4,5,6,7,8],[1,2,3,4,5,6,7,8,9],[0,1,2,3,4,5,6,7,8,9,10],[0,1,2,3,4,5,6,7,8,9,10,11]] [[(66,1),(67,2),(68,3),(69,4),(70,5),(71,6),(72,7),(73,8),(74,9),(75,10)],[(65,0),(68,3),(69,4),(70,5),(71,6)],[(65,0),(66,1),(68,3),(69,4),(70,5),(71,6)],[(65,0),(66,1),(67,2),(69,4)],[(65,0),(66,1),(67,2),(68,3)],[(65,0),(66,1),(67,2),(68,3),(69,4)],[(65,0),(66,1),(67,2),(68,3),(69,4),(70,5)],[(65,0),(66,1),(67,2),(68,3),(69,4),(70,5),(71,6)],[(65,0),(66,1),(67,2),(68,3),(69,4),(70,5),(71,6),(72,7)],[(65,0),(66,1),(67,2),(68,3),(69,4),(70,5),(71,6),(72,7),(73,8)],[(65,0),(66,1),(67,2),(68,3),(69,4),(70,5),(71,6),(72,7),(73,8),(74,9)],[(65,0),(66,1),(67,2),(68,3),(69,4),(70,5),(71,6),(72,7),(73,8),(74,9),(75,10)],[(65,0),(66,1),(67,2),(68,3),(69,4),(70,5),(71,6),(72,7),(73,8),(74,9),(75,10),(76,11)]] [(65,0),(66,1),(67,2),(68,3),(69,4),(70,5),(71,6),(72,7),(73,8),(74,9),(75,10)]
       [Is (.slice ga vs5.length gc),Is (.pointer (some ⟨pr,5,none⟩)),Is (.slice (some ⟨lb,lo,none⟩) l.length c5),Is (.slice (some ⟨pb,po,none⟩) Q.length pc),Is (.int .i64 kk),Is (.pointer (some ⟨pb,po+kk,none⟩)),Is (.int .i64 j),Is (.pointer (some ⟨lb,lo+j*6,none⟩)),Is (.agg #[.int .i64 xk,.int .i64 xn,.int .u64 xu,.string xs,.slice xa4 xn4 xc4,.slice xa5 xn5 xc5]),KidA w5 (kB x),KidB w5 (kB x)]
       zk jC.trans jC.refl (jC.refl _).drew zk ⟨jG,jG,jG,jG,jG,jG,jG,jG,jG,KidA.st w5 (kB x),KidB.st w5 (kB x),trivial⟩ rfl ?_ ?_
      rotate_left
      ·intro y w2 hG hF
       simp only[zH,Is,and_true,Nat.reduceAdd] at hF
       have h0:=hF.1
       have h1:=hF.2.1
       have h2:=hF.2.2.1
       have h3:=hF.2.2.2.1
       have h4:=hF.2.2.2.2.1
       have h5:=hF.2.2.2.2.2.1
       have h6:=hF.2.2.2.2.2.2.1
       have h7:=hF.2.2.2.2.2.2.2.1
       have h8:=hF.2.2.2.2.2.2.2.2.1
       have h9:=hF.2.2.2.2.2.2.2.2.2.1
       have h10:=hF.2.2.2.2.2.2.2.2.2.2
       clear hF
       simp only[jD,Act.put,zq1,zq2,zq3,zq4,zq5,List.drop_succ_cons,List.drop_zero]
       simp only[h0,h1,h2,h3,h4,h5,h6,h7,h8]
       clear h0 h1 h2 h3 h4 h5 h6 h7 h8
       obtain⟨wa,yv,g10,q1,q2,q3,e10,q5⟩:=h10
       obtain⟨yk,yn,yu,ys,ya4,yn4,yc4,ya5,yn5,yc5,rfl⟩:=q2.node6
       rw[e10]
       have HON7:Hid (kK w2 x2.heap.size (.slice ga vs5.length gc) vs5):=HT3.out.grew hG
       have HSZ7:Hid (x2.heap.size≤w2.heap.size):=Nat.le_trans HT0.out.size hG.size
       have HQ:=zh (And.intro q1 (And.intro q2 (And.intro q3 q5)))
       clear q1 q2 q3 q5 e10 hG h9
       have hq4:=HQ4.out
       have hwk:IntKind.i64.wrap ((kk:Int)+1)=(kk:Int)+1:=by rw[IntKind.wrap_i64];omega
       go_wp2_with (at_builtin;refine zL rfl _ _ rfl x2.heap.size _ vs5 rfl HON7.out _ _ (.agg #[.int .i64 yk,.int .i64 yn,.int .u64 yu,.string ys,.slice ya4 yn4 yc4,.slice ya5 yn5 yc5]) rfl HQ.out.2.2.2 ⟨_,_,_,_,_,_,_,_,_,_,rfl⟩ (by have:=HV5.out;have:=HLN.out;have:=HQ4.out;omega) HSZ7.out ?_;intro v' w8 kE hgr hnx;obtain⟨va3,vc3,rfl,hz1,hz2,hz3⟩:=jT kE.1;have HW8:=zh (bR (HT0.out.trans HQ.out.1) (HT1.out.grew' HQ.out.1) HT2.out vs5 S5 (HT3.out.grew HQ.out.1) (HT4.out.grew HQ.out.1) (fun g hg=>⟨(HT5.out g hg).1,Nat.lt_of_lt_of_le (HT5.out g hg).2.1 HQ.out.1.size,(HT5.out g hg).2.2⟩) HQ.out.2.1 HQ.out.2.2.1 (jC.refl _) kE hgr hnx);clear kE hgr hnx hz1 hz2 hz3)
       go_roundw
       case rel=>
        refine⟨kk+1,by omega,by go_num,?_⟩
        show KR _ _ _ _ _ _
        rw[← HX1.out,← HX2.out]
        have hh:=HW8.out
        simp only[List.length_append,List.length_cons,List.length_nil,Nat.zero_add] at hh
        exact hh
       case measure=>simp[intOf];omega
      refine⟨zst,zst,?_⟩
      refine⟨?_,?_⟩
      ·intro y w2 hG hD K hK
       have de5:=hG.cell e5
       exact zsr
      refine⟨zst,zst,zst,?_⟩
      refine⟨?_,?_⟩
      ·intro y w2 hG hD K hK
       have dcp5:=hG.cell cp5
       exact zsr
      refine⟨zst,?_⟩
      refine⟨?_,?_⟩
      ·intro y w2 hG hD K hK
       have df0:=hG.cell f0
       have df1:=hG.cell f1
       have df2:=hG.cell f2
       have df3:=hG.cell f3
       have df4:=hG.cell f4
       have df5:=hG.cell f5
       exact zsr
      refine⟨?_,?_⟩
      ·intro y w2 hG hD K hK
       simp only[jM,zq4,zq5,Is,and_true] at hD
       simp only[jD,Act.put,zq1,zq2,zq3,zq4,zq5,Is] at hK⊢
       simp only[hD] at hK⊢
       clear hD
       refine jF ?_
       go_simp
       refine (ih x HXS.out.1 _ HXV.out HXS.out.2 _ w2 (HNX.out.grew (HGA5.out.trans hG))).mono ?_
       rintro r w3 ⟨xv,rfl,hox,hg7⟩
       exact hK _ _ _ rfl hg7 ⟨w2,hG,hox,hg7⟩
      refine⟨?_,?_⟩
      ·intro y w2 hG hD K hK
       simp only[jM,zq4,zq5,Is,and_true] at hD
       have h9:=hD.2.2.2.2.2.2.2.2
       simp only[jD,Act.put,zq1,zq2,zq3,zq4,zq5,Is] at hK⊢
       simp only[hD] at hK⊢
       clear hD
       refine jF ?_
       obtain⟨wa,q1,q2,q3⟩:=h9
       obtain⟨yk,yn,yu,ys,ya4,yn4,yc4,ya5,yn5,yc5,ey⟩:=q2.node6
       rw[ey] at hK⊢ q2
       go_simp
       exact hK _ _ _ rfl ((jC.refl _).alloc _) ⟨wa,_,_,q1,(q2.grew ((jC.refl _).alloc _)).mono (fun g hg=>⟨hg.1,Nat.lt_of_lt_of_le hg.2 ((jC.refl _).alloc _).size⟩),q3.trans ((jC.refl _).alloc _),rfl,heap_alloc_new _ _⟩
      trivial
     refine⟨zst,zst,?_⟩
     refine⟨?_,?_⟩
     ·intro y w2 hG hD K hK
      have dd4:=hG.cell d4
      exact zsr
     refine⟨zst,zst,zst,?_⟩
     refine⟨?_,?_⟩
     ·intro y w2 hG hD K hK
      have dcp:=hG.cell cp
      exact zsr
     refine⟨zst,?_⟩
     refine⟨?_,?_⟩
     ·intro y w2 hG hD K hK
      have dck:=hG.cell ck
      exact zsr
     refine⟨?_,?_⟩
     ·intro y w2 hG hD K hK
      simp only[jM,zq4,zq5,Is,and_true] at hD
      simp only[jD,Act.put,zq1,zq2,zq3,zq4,zq5,Is] at hK⊢
      simp only[hD] at hK⊢
      clear hD
      refine jF ?_
      go_simp
      exact hK _ _ _ rfl ((jC.refl _).alloc _) (Y0 _ _ HQZ.out)
     trivial
    ·have ek:kk=Q.length:=by omega
     subst ek
     have hw:=HW.out
     rw[List.take_length] at hw
     obtain⟨ka,kc,hkf,_,_,_⟩:=jT hw.2.1
     subst hkf
     have hvv:∃n1 ga gc,u9=.slice ga n1 gc:=by obtain⟨_,_,_,vs5,S5,h3,_,_⟩:=hw;obtain⟨ga,gc,e,_,_,_⟩:=jT h3.1;exact⟨_,_,_,e⟩
     obtain⟨nl,ga,gc,rfl⟩:=hvv
     have ht:=hw.tree (w0:=x1) (k:=17) (n:=n) (u:=u) (s:=s) ⟨by unfold jQ;omega,HB.out.2.1,HB.out.2.2.1,HB.out.2.2.2,fun x hx=>by
      obtain⟨p,hp,rfl⟩:=List.mem_map.1 hx
      exact HKZ.out _ (List.mem_of_getElem? (HPG.out p hp))⟩ HC.out.size
     obtain⟨nk,hnk⟩:∃N,(Q.map Prod.fst).length=N:=⟨_,rfl⟩
     rw[hnk] at ht⊢
     have hm1:Moved (fun g=>g=pr+2) wr (wr.setCell ⟨pr+2,4,none⟩ (.slice ka nk kc)):=Moved.setCell (S:=fun g=>g=pr+2) (p:=⟨pr+2,4,none⟩) (Moved.refl _ wr) (fun _=>rfl) _
     have hm:Moved (fun g=>g=pr+2) wr ((wr.setCell ⟨pr+2,4,none⟩ (.slice ka nk kc)).setCell ⟨pr+2,5,none⟩ (.slice ga nl gc)):=Moved.setCell (S:=fun g=>g=pr+2) (p:=⟨pr+2,5,none⟩) hm1 (fun _=>rfl) _
     obtain⟨wf,hwf⟩:∃W,(wr.setCell ⟨pr+2,4,none⟩ (.slice ka nk kc)).setCell ⟨pr+2,5,none⟩ (.slice ga nl gc)=W:=⟨_,rfl⟩
     have hrf:wf.heap[pr+2]? = some (.cells #[.int .i64 17,.int .i64 n,.int .u64 u,.string s,.slice ka nk kc,.slice ga nl gc] 26 (0,0)):=by rw[← hwf];have h1:=heap_setCell_same wr (pr+2) 4 _ _ (.slice ka nk kc) kJ.out;have h2:=heap_setCell_same _ (pr+2) 5 _ _ (.slice ga nl gc) h1;simpa using h2
     rw[hwf] at hm
     have hef:=hm.heap HREW.out (fun e=>by omega)
     have HFN:Hid (∃v',Ending.returned (.agg #[.int .i64 17,.int .i64 n,.int .u64 u,.string s,.slice ka nk kc,.slice ga nl gc])=.returned v'∧jW (jH wf (pr+1) (.int .i64 17) (.int .i64 n) (.int .u64 u) (.string s) (.slice ka nk kc) (.slice ga nl gc)) w.heap.size (kB (.mk 17 n u s keys l)) v' (jX w (jH wf (pr+1) (.int .i64 17) (.int .i64 n) (.int .u64 u) (.string s) (.slice ka nk kc) (.slice ga nl gc)))∧jC w (jH wf (pr+1) (.int .i64 17) (.int .i64 n) (.int .u64 u) (.string s) (.slice ka nk kc) (.slice ga nl gc))):=by
      have h2:=HZ2.out
      have hmz:=hm.size
      rw[HST.out]
      exact k0 HPR.out (by omega) ((ht.kept hm (fun g hg e=>by have h1:=hg.1;omega)).mono (fun g hg=>⟨hg.1,by have h1:=hg.2;omega⟩)) (Moved.fresh HGA.out hm (fun g e=>by have h1:=HPR.out;omega)) _ _ _ _ _ _
     have o0:=jA kJ.out 0 _ rfl
     have o1:=jA kJ.out 1 _ rfl
     have o2:=jA kJ.out 2 _ rfl
     have o3:=jA kJ.out 3 _ rfl
     have o4:=jA kJ.out 4 _ rfl
     have o5:=jA kJ.out 5 _ rfl
     have q0:=jB kJ.out 0
     have q1:=jB kJ.out 1
     have q2:=jB kJ.out 2
     have q3:=jB kJ.out 3
     have q4:=jB kJ.out 4
     have q5:=jB kJ.out 5
     clear hw HW ht hm hm1 hlt
     go_upto_region 20 with fail
     try rw[hwf]
     clear o0 o1 o2 o3 o4 o5 q0 q1 q2 q3 q4 q5
     have o0:=jA hrf 0 _ rfl
     have o1:=jA hrf 1 _ rfl
     have o2:=jA hrf 2 _ rfl
     have o3:=jA hrf 3 _ rfl
     have o4:=jA hrf 4 _ rfl
     have o5:=jA hrf 5 _ rfl
     have z0:=jA hef 0 _ rfl
     have z1:=jA hef 1 _ rfl
     have z2:=jA hef 2 _ rfl
     have z3:=jA hef 3 _ rfl
     have z4:=jA hef 4 _ rfl
     have z5:=jA hef 5 _ rfl
     have q0:=jB hef 0
     have q1:=jB hef 1
     have q2:=jB hef 2
     have q3:=jB hef 3
     have q4:=jB hef 4
     have q5:=jB hef 5
     clear hrf hef hwf
     go_wp2_with fail
     refine bodyPost_ret (v:=.agg #[.int .i64 17,.int .i64 n,.int .u64 u,.string s,.slice ka nk kc,.slice ga nl gc]) (by simp[results,Try.results50,go_sem,z0,z1,z2,z3,z4,z5]) rfl ?_
     exact HFN.out
end Go.Proofs.Ytfbeepkogcmlmaa
