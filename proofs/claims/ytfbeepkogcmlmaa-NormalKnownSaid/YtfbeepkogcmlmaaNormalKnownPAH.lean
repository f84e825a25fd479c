/-
  Texts of the proof.
-/
import Derived.Test.YtfbeepkogcmlmaaNormalKnownPAG
import Derived.Lib.SliceRun
set_option linter.unusedVariables false
set_option linter.unusedSimpArgs false
set_option maxHeartbeats 32000000
set_option maxRecDepth 100000
namespace Go.Proofs.Ytfbeepkogcmlmaa
open Go Go.ChangeShapes Go.WideShapes Go.ChangeAt Go.RowKit Go.Joins Go.Deep
theorem kD.empty (w:World):kD (w.alloc (.cells #[] 9)) w.heap.size (.slice (some ⟨w.heap.size,0,none⟩) 0 0) []:=World.ownsRow_made w #[] 0 (Nat.le_refl _) (by decide) rfl
theorem V3 (w:World) (v:Value) (l:List ByteArray) (h:kO w v l) (hl:l.length≤1099511627776) :
 Calls Try.prog 62 #[v] w fun r w'=>∃v',r=.returned v'∧kD w' w.heap.size v' l∧jC w w':=by
 have HX:=zh h
 obtain⟨a,c,rfl,_,_,zE,zG⟩:=h
 cases a with
 | none=>
  obtain rfl:=zE rfl
  have h0:l=[]:=by
   cases l with
   | nil=>rfl
   | cons y r=>obtain⟨_,b,off,e,_⟩:=zG 0 y rfl;cases e
  subst h0
  clear zG zE
  go_enter Try.func62,Try.ntmps62
  have hq:∀w0:World,Sem.run Try.prog (binOp .eql 23 (.slice none 0 0) (.slice none 0 0)) w0=.ok (.bool true) w0:=fun w0=>Lib.run_eql_slice_nil w0 23 9 none 0 0 0 0 Try.underlying23
  go_wp2
  go_ret
  exact⟨_,rfl,kD.nil _ _,jC.refl _⟩
 | some ad=>
  clear zG zE
  have hq:∀w0:World,Sem.run Try.prog (binOp .eql 23 (.slice (some ad) l.length c) (.slice none 0 0)) w0=.ok (.bool false) w0:=fun w0=>Lib.run_eql_slice_nil w0 23 9 (some ad) l.length c 0 0 Try.underlying23
  have kE:Hid (∀T,T=9→kD (w.alloc (.cells #[] T)) w.heap.size (.slice (some ⟨w.heap.size,0,none⟩) 0 0) []):=fun T e=>by subst e;exact kD.empty w
  go_enter Try.func62,Try.ntmps62
  go_wp2_with (at_builtin;refine yN rfl _ _ rfl w.heap.size (.slice (some ⟨w.heap.size,0,none⟩) 0 0) [] rfl (kE.out _ rfl) _ l rfl (HX.out.grew ((jC.refl w).alloc _)) (by simp;omega) (by simp) ?_;intro v' w3 hown2 hgr hqq;obtain⟨va2,vc2,rfl,_,_,_⟩:=jT hown2;have HO:=zh (And.intro hown2 (YZ (kE.out _ rfl) ((jC.refl w).alloc _) hgr));clear hown2 hgr hqq)
  go_ret
  exact⟨_,rfl,by simpa using HO.out.1,HO.out.2⟩
theorem YN:∀(m:Nat) (t:Tr),t.size≤m→∀(v:Value) (w:World),jL w t v→Few t →
 Calls Try.prog 39 #[v] w fun r w'=>∃v',r=.returned v'∧jW w' w.heap.size t v' (jX w w')∧jC w w':=by
 intro m
 induction m with
 | zero=>intro t ht;have:=t.size_pos;omega
 | succ m ih=>
 intro t ht v w hn hf
 obtain⟨k,n,u,s,keys,l⟩:=t
 simp only[jL] at hn
 obtain⟨hb,kv,lv,vs,rfl,hks,kS,kP⟩:=hn
 simp only[Few] at hf
 obtain⟨hf1,hf2,hf3⟩:=hf
 have hkl:vs.length=l.length:=kP.length
 have HKS:=zh hks
 have HK:=zh kP
 have HF3:=zh hf3
 have HB:=zh hb
 obtain⟨a4,c4,rfl,hx1,hx2,hx3,hx4⟩:=hks
 clear hx1 hx2 hx3 hx4
 have j8:=zh kS
 obtain⟨a5,c5,rfl,hx1,hc5,hx3,hx4⟩:=kS
 clear hx1 hx3 hx4
 rw[hkl] at j8⊢
 have hkz:Hid (∀x∈keys,jI x.size):=fun x hx=>by
  obtain⟨_,_,_,_,_,_,h⟩:=HKS.out
  obtain⟨i,hi,rfl⟩:=List.mem_iff_getElem.1 hx
  exact (h i _ (List.getElem?_eq_getElem hi)).1
 have hsz:∀x∈l,x.size≤m:=fun x hx=>by have:=k9 hx;simp only[Tr.size] at ht;omega
 have HSZ:=zh hsz
 clear kP hf3 hb hsz ht hkl hc5
 go_enter Try.func39,Try.ntmps39
 go_wp2_with fail
 have hb1:=heap_alloc_new w (.cells #[.int .i64 k,.int .i64 n,.int .u64 u,.string s,.slice a4 keys.length c4,.slice a5 l.length c5] 26)
 have hg1:=(jC.refl w).alloc (.cells #[.int .i64 k,.int .i64 n,.int .u64 u,.string s,.slice a4 keys.length c4,.slice a5 l.length c5] 26)
 have hs1:(w.alloc (.cells #[.int .i64 k,.int .i64 n,.int .u64 u,.string s,.slice a4 keys.length c4,.slice a5 l.length c5] 26)).heap.size=w.heap.size+1:=World.size_alloc _ _
 generalize (w.alloc (.cells #[.int .i64 k,.int .i64 n,.int .u64 u,.string s,.slice a4 keys.length c4,.slice a5 l.length c5] 26))=w1 at *
 have hb2:=heap_alloc_new w1 (.cells #[.int .i64 0,.int .i64 0,.int .u64 0,.string ⟨#[]⟩,.slice none 0 0,.slice none 0 0] 26)
 have hg2:=(jC.refl w1).alloc (.cells #[.int .i64 0,.int .i64 0,.int .u64 0,.string ⟨#[]⟩,.slice none 0 0,.slice none 0 0] 26)
 have hs2:(w1.alloc (.cells #[.int .i64 0,.int .i64 0,.int .u64 0,.string ⟨#[]⟩,.slice none 0 0,.slice none 0 0] 26)).heap.size=w1.heap.size+1:=World.size_alloc _ _
 rw[hs1] at hb2 hs2
 generalize (w1.alloc (.cells #[.int .i64 0,.int .i64 0,.int .u64 0,.string ⟨#[]⟩,.slice none 0 0,.slice none 0 0] 26))=w2 at *
 replace hb1:=hg2.heap hb1
 have hG:=hg1.trans hg2
 have hs2':w2.heap.size=w.heap.size+2:=by omega
 obtain⟨N,hN⟩:∃N,w.heap.size=N:=⟨_,rfl⟩
 rw[hN] at hb1 hb2 hs2'⊢
 have HN:=zh hN
 have HS2:=zh hs2'
 have HG0:=zh hG
 clear hs1 hs2 hs2' hg1 hg2 hN
 refine (V3 _ _ _ (HKS.out.grew hG) (by omega)).mono ?_
 rintro r w2' ⟨kv',rfl,hkv,hgk⟩
 obtain⟨va,vc,rfl,hz1,hz2,hz3⟩:=jT hkv
 replace hb1:=hgk.heap hb1
 replace hb2:=hgk.heap hb2
 have q5:=jB hb1 4
 have q4:=jA hb1 4 _ rfl
 obtain⟨w3,hw3⟩:∃w3,w2'.setCell ⟨N,4,none⟩ (.slice va keys.length vc)=w3:=⟨_,rfl⟩
 have hm3:Moved (fun g=>g=N) w2' w3:=by rw[← hw3];exact Moved.setCell (S:=fun g=>g=N) (p:=⟨N,4,none⟩) (Moved.refl _ w2') (fun _=>rfl) _
 have hb3:w3.heap[N]? = some (.cells #[.int .i64 k,.int .i64 n,.int .u64 u,.string s,.slice va keys.length vc,.slice a5 l.length c5] 26 (0,0)):=by
  rw[← hw3]
  have:=heap_setCell_same w2' N 4 _ _ (.slice va keys.length vc) hb1
  simpa using this
 have HB1':=zh hb3
 have kJ:=zh hb3
 have HB2':=zh (hm3.heap hb2 (by omega))
 have HKV:Hid (kD w3 (N+2) (.slice va keys.length vc) keys):=kX (Moved.owns hm3 hkv (fun g hg e=>zM hkv hb1 (by decide) (by rw[hg,e]))) (by have:=HS2.out;omega)
 have HG3:Hid (jC w w3):=Moved.fresh (hG.trans hgk) hm3 (fun g h=>by have:=HN.out;omega)
 have HW3:=zh hw3
 have l5:=jA hb1 5 _ rfl
 clear hb1 hb2 hb3 hm3 hw3 hkv hG hz1 hz2 hz3 hgk
 go_wp2_with fail
 rw[HW3.out]
 clear q4 q5
 go_loopw [3,13] (fun v i wr=>∃kk:Nat,kk≤l.length∧i=.int .i64 kk∧Hid (zI (fun _=>False) w3 wr v (l.take kk))) (fun _ i _=>l.length - (intOf i).toNat)
 case atStart=>exact⟨0,Nat.zero_le _,rfl,by show zI _ _ _ _ _;exact zI.start _ _⟩
 case round=>
  obtain⟨kk,hkk,rfl,HW⟩:=hrel
  have hgw:jC w3 wr:=by obtain⟨_,_,_,_,_,hm⟩:=HW.out;exact Moved.fresh (jC.refl _) hm (fun g h=>h.elim)
  have HGW:=zh hgw
  clear hgw
  by_cases hlt:kk < l.length
  ·obtain⟨x,hx⟩:∃x,l[kk]? = some x:=⟨_,List.getElem?_eq_getElem hlt⟩
   obtain⟨xv,hxv,hnx⟩:=HK.out.get hx
   have hxm:x∈l:=List.mem_of_getElem? hx
   have HX:=zh (show l.take kk++[x]=l.take (kk+1) by rw[List.take_add_one,hx];rfl)
   have HFX:=zh (HF3.out.mem hxm)
   have hxs:=HSZ.out x hxm
   have zX:Hid (∀w',jC w w'→jL w' x xv):=fun w' hg=>hnx.grew hg
   obtain⟨b,off,rfl,hc6⟩:∃b off,a5=some ⟨b,off,none⟩∧kQ wr b (off+kk*6) xv:=by
    obtain⟨a,c,e,_,_,_,h⟩:=j8.out
    injection e with e1 e2 e3
    subst e1
    obtain⟨b,off,e,h6⟩:=h kk xv hxv
    exact⟨b,off,e,h6.grew (HG3.out.trans HGW.out)⟩
   obtain⟨xk,xn,xu,xs,xa4,xn4,xc4,xa5,xn5,xc5,rfl⟩:=hnx.node6
   obtain⟨e0,e1,e2,e3,e4,e5⟩:=hc6.get
   clear hc6 hx hxv hnx hxm
   have yD:(kk:Int) < l.length:=by omega
   go_wp2_with fail
   have HGR:=zh ((jC.refl wr).alloc (.cells #[.int .i64 xk,.int .i64 xn,.int .u64 xu,.string xs,.slice xa4 xn4 xc4,.slice xa5 xn5 xc5] 26))
   generalize (wr.alloc (.cells #[.int .i64 xk,.int .i64 xn,.int .u64 xu,.string xs,.slice xa4 xn4 xc4,.slice xa5 xn5 xc5] 26))=ws at *
   have HWS:Hid (zI (fun _=>False) w3 ws u3 (l.take kk)):=HW.out.kept (Moved.of_grew HGR.out) (fun _ h=>h.elim) (fun _ h=>h)
   refine (ih x hxs _ ws (zX.out ws (HG3.out.trans (HGW.out.trans HGR.out))) HFX.out).mono ?_
   rintro r w4 ⟨xv,rfl,hox,hg4⟩
   obtain⟨yk,yn,yu,ys,ya4,yn4,yc4,ya5,yn5,yc5,rfl⟩:=hox.node6
   have HOX:=zh hox
   have HG4:=zh hg4
   obtain⟨vs4,S4,q1,q2,q3,q4⟩:=HWS.out
   obtain⟨ga,gc,rfl,hz1,hz2,hz3⟩:=HWS.out.form
   have HV4:Hid (vs4.length≤4096):=by show _≤_;rw[q2.length,List.length_take];omega
   have HQ1:=zh q1
   have HQ2:=zh q2
   have HQ3:=zh q3
   have HQ4:=zh q4
   have HON:Hid (∀o,kK (w4.alloc o) w3.heap.size (.slice ga (l.take kk).length gc) vs4):=fun o=>(q1.grew hg4).grew ((jC.refl _).alloc o)
   have HSZ4:Hid (∀o,w3.heap.size≤(w4.alloc o).heap.size):=fun o=>Nat.le_trans (Nat.le_trans (Nat.le_trans HGW.out.size HGR.out.size) hg4.size) ((jC.refl w4).alloc o).size
   clear q1 q2 q3 q4 hz1 hz2 hz3 hox hg4 HW HWS e0 e1 e2 e3 e4 e5
   generalize l.take kk=L at *
   go_wp2_with (at_builtin;refine zL rfl _ _ rfl w3.heap.size _ vs4 rfl (HON.out _) _ _ (.agg #[.int .i64 yk,.int .i64 yn,.int .u64 yu,.string ys,.slice ya4 yn4 yc4,.slice ya5 yn5 yc5]) rfl (heap_alloc_new _ _) ⟨_,_,_,_,_,_,_,_,_,_,rfl⟩ (by have:=HV4.out;omega) (HSZ4.out _) ?_;intro v' w5 kE hgr hnx;obtain⟨va2,vc2,rfl,hz1,hz2,hz3⟩:=jT kE.1;have HG5:=zh (zI.step (R:=fun _=>False) (fun g h=>h.elim) vs4 S4 HQ2.out HQ1.out HQ3.out HQ4.out HOX.out (Moved.of_grew HG4.out) _ kE hgr hnx);clear kE hgr hnx hz1 hz2 hz3)
   go_roundw
   case rel=>
    refine⟨kk+1,by omega,by go_num,?_⟩
    show zI _ _ _ _ _
    rw[← HX.out]
    have hh:=HG5.out
    rw[List.length_append] at hh
    exact hh
   case measure=>simp[intOf];omega
  ·have ek:kk=l.length:=by omega
   subst ek
   have hw:=HW.out
   rw[List.take_length] at hw
   have HE:=zh hw
   have hgw:=HGW.out
   have jP:=hgw.heap kJ.out
   have jR:=hgw.heap HB2'.out
   have HROWW:=zh jP
   have HRESW:=zh jR
   have f5:=jB jP 5
   have r0:=jB jR 0
   have r1:=jB jR 1
   have r2:=jB jR 2
   have r3:=jB jR 3
   have r4:=jB jR 4
   have r5:=jB jR 5
   have d0:=jA jP 0 _ rfl
   have d1:=jA jP 1 _ rfl
   have d2:=jA jP 2 _ rfl
   have d3:=jA jP 3 _ rfl
   have d4:=jA jP 4 _ rfl
   have d5:=jA jP 5 _ rfl
   have z0:=jA jR 0 _ rfl
   have z1:=jA jR 1 _ rfl
   have z2:=jA jR 2 _ rfl
   have z3:=jA jR 3 _ rfl
   have z4:=jA jR 4 _ rfl
   have z5:=jA jR 5 _ rfl
   obtain⟨ga,gc,rfl,hz1,hz2,hz3⟩:=HE.out.form
   clear hw HW hgw jP jR hz1 hz2 hz3
   have hT:=vC wr N (N+1) (.int .i64 k) (.int .i64 n) (.int .u64 u) (.string s) (.slice va keys.length vc) (.slice ga l.length gc) (.slice ga l.length gc)
   have hTW:jC w (jH (wr.setCell ⟨N,5,none⟩ (.slice ga l.length gc)) (N+1) (.int .i64 k) (.int .i64 n) (.int .u64 u) (.string s) (.slice va keys.length vc) (.slice ga l.length gc)):=Moved.fresh (HG3.out.trans HGW.out) hT (fun q hq=>by have h1:=HN.out;rcases hq with rfl | rfl<;>omega)
   have hkvW:kD wr (N+2) (.slice va keys.length vc) keys:=HKV.out.grew HGW.out
   have hfin:jW (jH (wr.setCell ⟨N,5,none⟩ (.slice ga l.length gc)) (N+1) (.int .i64 k) (.int .i64 n) (.int .u64 u) (.string s) (.slice va keys.length vc) (.slice ga l.length gc)) w.heap.size (.mk k n u s keys l) (.agg #[.int .i64 k,.int .i64 n,.int .u64 u,.string s,.slice va keys.length vc,.slice ga l.length gc]) (jX w (jH (wr.setCell ⟨N,5,none⟩ (.slice ga l.length gc)) (N+1) (.int .i64 k) (.int .i64 n) (.int .u64 u) (.string s) (.slice va keys.length vc) (.slice ga l.length gc))):=by
    have h1:=HN.out
    have h3:N < w3.heap.size:=(Array.getElem?_eq_some_iff.1 kJ.out).1
    have h4:N+1 < w3.heap.size:=(Array.getElem?_eq_some_iff.1 HB2'.out).1
    refine zI.tree (((HE.out.wider (fun _ h=>h.elim)).kept hT (fun q hq=>?_) (fun _ h=>h))) ⟨HB.out.1,HB.out.2.1,HB.out.2.2.1,HB.out.2.2.2,hkz.out⟩ HG3.out.size ?_ (fun q hq=>(World.ownsRow.lt HKV.out q hq).2)
    ·rcases hq with rfl|rfl<;>omega
    ·refine kX (Moved.owns hT hkvW (fun q hq e=>?_)) (by omega)
     rcases e with rfl|rfl
     ·exact zM hkvW HROWW.out (by decide) hq
     ·exact zM hkvW HRESW.out (by decide) hq
   have HFIN:=zh (And.intro hfin hTW)
   clear hT hTW hfin hkvW
   go_wp2
   refine bodyPost_ret (v:=.agg #[.int .i64 k,.int .i64 n,.int .u64 u,.string s,.slice va keys.length vc,.slice ga l.length gc]) (by simp[results,Try.results39,go_sem,z0,z1,z2,z3,z4,z5]) rfl ?_
   exact⟨_,rfl,HFIN.out.1,HFIN.out.2⟩
def jK (k:Int):Int:=
 if k=2∨k=3∨k=8 then 1 else if k=4∨k=9 then 2 else if k=5∨k=6∨k=7 then 4 else if k=17 then 8 else 0
def kR (k:Int):Int:=
 if k=10∨k=17 then 0 else if k=11∨k=15 then 3 else if k=12∨k=16 then 4 else if k=13 then 5 else if k=14 then 2 else -1
theorem Y5 (k:Int) (h1:1≤k) (h2:k≤17):k=1∨k=2∨k=3∨k=4∨k=5∨k=6∨k=7∨k=8∨k=9∨k=10∨k=11∨k=12∨k=13∨k=14∨k=15∨k=16∨k=17:=by omega
theorem vR {P:Program} (t e:TypeId) (n:Nat) (cs:Array Value) (k:IntKind) (i:Int) (w:World) (h:P.underlying t=some (.array n e))
 (he:(isAgg e).run P w=.ok false w) (hs:(P.info? e).map (·.size)=some 1) (h0:0≤i) (h1:i < n) (v:Value) (hv:cs[i.toNat]? = some v) :
 (Instr.index t (.agg cs) (.int k i)).run P w=.ok v w:=by
 have hn:0≤i∧i < (n:Int):=⟨h0,h1⟩
 cases hq:P.info? e with
 | none=>simp[hq] at hs
 | some ie=>
  have hsz:ie.size=1:=by simpa [hq] using hs
  have hso:(sizeOf e).run P w=.ok 1 w:=by simp[sizeOf,typeInfo,hq,hsz]
  unfold Instr.index
  simp[asIntOf,Sem.run_bind,Sem.run_pure,Result.andThen_ok,run_underlying h,hn,hso,part,he,hv]
theorem aW (k:Int) (w:World) (h1:1≤k) (h2:k≤17):Calls Try.prog 55 #[.int .i64 k] w fun r w'=>r=.returned (.int .i64 (jK k))∧w=w':=by
 have hx:∀w',(Instr.index 78 (.agg #[.int .i64 0,.int .i64 0,.int .i64 1,.int .i64 1,.int .i64 2,.int .i64 4,.int .i64 4,.int .i64 4,.int .i64 1,.int .i64 2,.int .i64 0,.int .i64 0,.int .i64 0,.int .i64 0,.int .i64 0,.int .i64 0,.int .i64 0,.int .i64 8]) (.int .i64 k)).run Try.prog w'=.ok (.int .i64 (jK k)) w':=fun w'=>
  vR (P:=Try.prog) 78 3 18 _ .i64 k w' Try.underlying78 (Try.isAgg3 w') zk (by omega) (by omega) _ (by
   rcases Y5 k h1 h2 with rfl|rfl|rfl|rfl|rfl|rfl|rfl|rfl|rfl|rfl|rfl|rfl|rfl|rfl|rfl|rfl|rfl<;>rfl)
 go_enter Try.func55,Try.ntmps55
 go_wp2
 go_ret
 exact⟨rfl,rfl⟩
theorem aX (k:Int) (w:World) (h1:1≤k) (h2:k≤17):Calls Try.prog 56 #[.int .i64 k] w fun r w'=>r=.returned (.int .i64 (kR k))∧w=w':=by
 have hx:∀w',(Instr.index 78 (.agg #[.int .i64 0,.int .i64 (-1),.int .i64 (-1),.int .i64 (-1),.int .i64 (-1),.int .i64 (-1),.int .i64 (-1),.int .i64 (-1),.int .i64 (-1),.int .i64 (-1),.int .i64 0,.int .i64 3,.int .i64 4,.int .i64 5,.int .i64 2,.int .i64 3,.int .i64 4,.int .i64 0]) (.int .i64 k)).run Try.prog w'=.ok (.int .i64 (kR k)) w':=fun w'=>
  vR (P:=Try.prog) 78 3 18 _ .i64 k w' Try.underlying78 (Try.isAgg3 w') zk (by omega) (by omega) _ (by
   rcases Y5 k h1 h2 with rfl|rfl|rfl|rfl|rfl|rfl|rfl|rfl|rfl|rfl|rfl|rfl|rfl|rfl|rfl|rfl|rfl<;>rfl)
 go_enter Try.func56,Try.ntmps56
 go_wp2
 go_ret
 exact⟨rfl,rfl⟩
def jS (p:Int) (x:Tr):Bool:=p != 0 && x.kind != p
theorem yW {w:World} {t:Tr} {k n u:Int} {s:ByteArray} {a4 a5:Option Addr} {n4 c4 n5 c5:Nat} (h:jL w t (.agg #[.int .i64 k,.int .i64 n,.int .u64 u,.string s,.slice a4 n4 c4,.slice a5 n5 c5])):k=t.kind:=by
 cases t
 simp only[jL] at h
 obtain⟨_,kv,lv,vs,e,_⟩:=h
 injection e with e
 injection e with e
 simp at e
 exact e.1
theorem V4 (p:Int) (bp:Nat) (t:Tr) (v:Value) (w:World) (hn:jL w t v) (hb:w.cell? ⟨bp,0,none⟩=some (.int .i64 p)) :
 Calls Try.prog 57 #[v,.pointer (some ⟨bp,0,none⟩)] w fun r w'=>r=.returned (.bool (jS p t))∧jC w w':=by
 obtain⟨k,n,u,s,a4,n4,c4,a5,n5,c5,rfl⟩:=hn.node6
 have HK:=zh (yW hn)
 clear hn
 have hlt:bp < w.heap.size:=World.block_lt_of_cell? w _ hb
 have hb2:∀o,(w.alloc o).cell? ⟨bp,0,none⟩=some (.int .i64 p):=fun o=>((jC.refl w).alloc o).cell hb
 by_cases hp:p=0
 ·have hq:(p != 0)=false:=by simp[hp]
  have HF:Hid (jS p t=false):=by show _=_;simp[jS,hp]
  clear hp
  go_enter Try.func57,Try.ntmps57
  go_wp2
  go_ret
  exact⟨by rw[HF.out];rfl,(jC.refl w).alloc _⟩
 ·have hq:(p != 0)=true:=by simp[hp]
  have HF:Hid (jS p t=(k != p)):=by show _=_;simp[jS,hp,HK.out]
  clear hp
  go_enter Try.func57,Try.ntmps57
  go_wp2
  go_ret
  exact⟨by rw[HF.out];rfl,(jC.refl w).alloc _⟩
def qY (p:Int):List Tr→Nat→Int
 | [],_=>-1
 | t::r,i=>if jS p t then i else qY p r (i+1)
theorem Q2 (p:Int) (l:List Tr) (k i:Nat) (x:Tr) (hx:l[k]? = some x) (h:∀y∈l.take k,jS p y=false) (ho:jS p x=true):qY p l i=((i+k:Nat):Int):=by
 induction l generalizing k i with
 | nil=>simp at hx
 | cons t r ih=>
  cases k with
  | zero=>simp at hx;subst hx;simp[qY,ho]
  | succ k=>
   have h0:jS p t=false:=h t (by simp)
   rw[qY,h0]
   simp only[Bool.false_eq_true,if_false]
   rw[ih k (i+1) (by simpa using hx) (fun y hy=>h y (by simp[hy]))]
   congr 1;omega
theorem Q3 (p:Int) (l:List Tr) (i:Nat) (h:∀y∈l,jS p y=false):qY p l i = -1:=by
 induction l generalizing i with
 | nil=>rfl
 | cons t r ih=>rw[qY,h t (by simp)];simp only[Bool.false_eq_true,if_false];exact ih (i+1) (fun y hy=>h y (by simp[hy]))
theorem aY (p:Int) (l:List Tr) (i:Nat):decide (0≤qY p l i)=l.any (jS p):=by
 induction l generalizing i with
 | nil=>rfl
 | cons t r ih=>
  rw[qY,List.any_cons]
  cases h:jS p t with
  | true=>simp
  | false=>simpa using ih (i+1)
theorem ZX (p:Int) (bp:Nat) (l:List Tr) (lv:Value) (vs:List Value) (w:World) (hr:yT w lv vs) (hk:k4 w l vs) (hb:w.cell? ⟨bp,0,none⟩=some (.int .i64 p)) :
 Calls Try.prog 67 #[lv,.func (.func 57) #[] #[.pointer (some ⟨bp,0,none⟩)]] w fun r w'=>r=.returned (.int .i64 (qY p l 0))∧jC w w':=by
 have HR:=zh hr
 have HK:=zh hk
 have HB:=zh hb
 have hkl:=hk.length
 obtain⟨a,c,rfl,hlc,hc,hz1,hz2⟩:=hr
 unfold jI at hc
 rw[hkl] at HR hlc⊢
 have kV:l.length≤9223372036854775807:=by omega
 clear hz1 hz2 hk hb hkl hlc hc
 go_enter Try.func67,Try.ntmps67
 go_wp2_with fail
 go_loopw [8] (fun i wr=>∃kk:Nat,kk≤l.length∧i=.int .i64 kk∧Hid ((∀y∈l.take kk,jS p y=false)∧jC w wr)) (fun i _=>l.length - (intOf i).toNat)
 case atStart=>exact⟨0,Nat.zero_le _,rfl,by show _∧_;exact⟨by simp,jC.refl _⟩⟩
 case round=>
  obtain⟨kk,hkk,rfl,HW⟩:=hrel
  by_cases hlt:kk < l.length
  ·obtain⟨x,hx⟩:∃x,l[kk]? = some x:=⟨_,List.getElem?_eq_getElem hlt⟩
   obtain⟨xv,hxv,hnx⟩:=HK.out.get hx
   obtain⟨b,off,rfl,hc6⟩:∃b off,a=some ⟨b,off,none⟩∧kQ wr b (off+kk*6) xv:=by
    obtain⟨a,c,e,_,_,_,h⟩:=HR.out
    injection e with e1 e2 e3
    subst e1
    obtain⟨b,off,e,h6⟩:=h kk xv hxv
    exact⟨b,off,e,h6.grew HW.out.2⟩
   obtain⟨xk,xn,xu,xs,xa4,xn4,xc4,xa5,xn5,xc5,rfl⟩:=hnx.node6
   obtain⟨e0,e1,e2,e3,e4,e5⟩:=hc6.get
   have HNX:=zh hnx
   have HX:=zh hx
   clear hc6 hx hxv hnx
   have yD:(kk:Int) < l.length:=by omega
   go_wp2_with fail
   refine (V4 p bp x _ _ (HNX.out.grew HW.out.2) (HW.out.2.cell HB.out)).mono ?_
   cases ho:jS p x with
   | false=>
    have HO:=zh ho
    clear ho
    rintro r w3 ⟨rfl,hg⟩
    have HG:=zh (HW.out.2.trans hg)
    clear hg
    go_wp2_with fail
    go_roundw
    case rel=>
     refine⟨kk+1,by omega,by go_num,?_⟩
     show _∧_
     refine⟨fun y hy=>?_,HG.out⟩
     rw[List.take_add_one,HX.out] at hy
     rcases List.mem_append.1 hy with hy|hy
     ·exact HW.out.1 y hy
     ·simp at hy;subst hy;exact HO.out
    case measure=>simp[intOf];omega
   | true=>
    have HF:Hid (qY p l 0=(kk:Int)):=by show _=_;rw[Q2 p l kk 0 x HX.out HW.out.1 ho,Nat.zero_add]
    clear ho
    rintro r w3 ⟨rfl,hg⟩
    have HG:=zh (HW.out.2.trans hg)
    clear hg
    go_wp2_with fail
    go_ret
    exact⟨by rw[HF.out];rfl,HG.out⟩
  ·have ek:kk=l.length:=by omega
   subst ek
   have HF:Hid (qY p l 0 = -1):=Q3 p l 0 (by have h:=HW.out.1;rwa [List.take_length] at h)
   go_wp2
   go_ret
   exact⟨by rw[HF.out];rfl,HW.out.2⟩
theorem YO (p:Int) (bp:Nat) (l:List Tr) (lv:Value) (vs:List Value) (w:World) (hr:yT w lv vs) (hk:k4 w l vs) (hb:w.cell? ⟨bp,0,none⟩=some (.int .i64 p)) :
 Calls Try.prog 58 #[lv,.func (.func 57) #[] #[.pointer (some ⟨bp,0,none⟩)]] w fun r w'=>r=.returned (.bool (l.any (jS p)))∧jC w w':=by
 have zX:=ZX p bp l lv vs w hr hk hb
 obtain⟨a,c,rfl,hx⟩:=hr
 have hf:=aY p l 0
 generalize qY p l 0=q at *
 have HF:=zh hf
 have HC:=zh zX
 clear zX hx hf hk hb
 go_enter Try.func58,Try.ntmps58
 go_wp2_with fail
 refine HC.out.mono ?_
 rintro r w3 ⟨rfl,hg⟩
 have HG:=zh hg
 clear hg
 go_wp2
 go_ret
 exact⟨by rw[← HF.out];rfl,HG.out⟩
def jJ:Tr→Bool
 | .mk k n u s keys l=>decide (1≤k∧k≤17) && (decide (jK k=1) || decide (n=0)) && (decide (jK k=2) || decide (u=0)) && (decide (jK k=4) || decide (s.toList=[])) && (decide (jK k=8) || decide (keys.length=0)) &&
  (!decide (k=2) || decide (n=0) || decide (n=1)) && (!decide (k=17) || decide (keys.length=l.length)) && (!(decide (k=15) || decide (k=16)) || decide (2≤l.length∧l.length≤4)) && !(l.any (jS (kR k)))
theorem aZ (t:Tr) (v:Value) (w:World) (hn:jL w t v) :
 Calls Try.prog 36 #[v] w fun r w'=>r=.returned (.bool (jJ t))∧jC w w':=by
 obtain⟨k,n,u,s,keys,l⟩:=t
 simp only[jL] at hn
 obtain⟨hb,kv,lv,vs,rfl,hks,kS,kP⟩:=hn
 have hkl:=kP.length
 have HK:=zh kP
 obtain⟨a4,c4,rfl,hkc,hkm,hx3,hx4⟩:=hks
 have j8:=zh kS
 obtain⟨a5,c5,rfl,hll,hc5,hx5,hx6⟩:=kS
 rw[hkl] at j8 hll⊢
 have kV:l.length≤9223372036854775807:=by unfold jI at hc5;omega
 have kZ:keys.length≤9223372036854775807:=by unfold jI at hkm;omega
 clear hx3 hx4 hx5 hx6 hll hc5 hkl kP hkc hkm hb
 by_cases h1:1≤k
 rotate_left
 ·have HF:Hid (jJ (.mk k n u s keys l)=false):=by show _=_;simp[jJ,h1]
  have hlt:k < 1:=by omega
  clear h1
  go_enter Try.func36,Try.ntmps36
  go_wp2_with fail
  go_ret
  exact⟨by rw[HF.out];rfl,(jC.refl w).alloc _⟩
 by_cases h2:k≤17
 rotate_left
 ·have HF:Hid (jJ (.mk k n u s keys l)=false):=by show _=_;simp[jJ,h2]
  have hlt:¬k < 1:=by omega
  have hgt:17 < k:=by omega
  clear h1 h2
  go_enter Try.func36,Try.ntmps36
  go_wp2_with fail
  go_ret
  exact⟨by rw[HF.out];rfl,(jC.refl w).alloc _⟩
 have hlt:¬k < 1:=by omega
 have hgt:¬17 < k:=by omega
 have H12:=zh (And.intro h1 h2)
 clear h1 h2
 go_enter Try.func36,Try.ntmps36
 go_wp2_with fail
 have hb1:=heap_alloc_new w (.cells #[.int .i64 k,.int .i64 n,.int .u64 u,.string s,.slice a4 keys.length c4,.slice a5 l.length c5] 26)
 have hg1:=(jC.refl w).alloc (.cells #[.int .i64 k,.int .i64 n,.int .u64 u,.string s,.slice a4 keys.length c4,.slice a5 l.length c5] 26)
 generalize (w.alloc (.cells #[.int .i64 k,.int .i64 n,.int .u64 u,.string s,.slice a4 keys.length c4,.slice a5 l.length c5] 26))=w1 at *
 obtain⟨N,hN⟩:∃N,w.heap.size=N:=⟨_,rfl⟩
 rw[hN] at hb1⊢
 clear hN
 have HB1:=zh hb1
 have HG:=zh hg1
 have c0:=jA hb1 0 _ rfl
 clear hb1 hg1 hlt hgt
 refine qD jC [[],[0],[1],[],[3],[4],[],[2],[5,6]] [[(16,2),(17,3),(18,4),(19,5),(4,6),(3,7)],[(14,0),(17,3),(18,4),(19,5),(4,6),(3,7)],[(14,0),(15,1),(17,3),(18,4),(19,5),(4,6)],[(14,0),(15,1),(16,2),(19,5),(4,6),(3,7)],[(14,0),(15,1),(16,2),(17,3),(4,6),(3,7)],[(14,0),(15,1),(16,2),(17,3),(18,4),(4,6),(3,7)],[(14,0),(15,1),(16,2),(17,3),(18,4),(19,5),(3,7)],[(14,0),(15,1),(16,2),(17,3),(18,4),(19,5),(4,6)],[(14,0),(15,1),(16,2),(17,3),(18,4),(19,5),(4,6),(3,7)]]
  [Is (.pointer (some ⟨N,0,none⟩)),Is (.int .i64 k),Is (.int .i64 (jK k)),Is (.pointer (some ⟨N,0,none⟩)),Is (.int .i64 k),Is (.int .i64 (kR k)),fun v w=>∃g,v=.pointer (some ⟨g,0,none⟩)∧w1.heap.size≤g∧w.heap[g]? = some (.cells #[.int .i64 0] 3 (0,0)),Is (.int .i64 (jK k))]
  zk jC.trans jC.refl (jC.refl _).drew zk ⟨jG,jG,jG,jG,jG,jG,fun _ _ _ hg h=>h.elim fun q h=>⟨q,h.1,h.2.1,hg.heap h.2.2⟩,jG,trivial⟩ rfl ⟨?_,?_,?_,?_,?_,?_,?_,?_,trivial⟩ ?_ rfl
 ·intro y w2' hG hD K hK
  simp only[jD,Act.put,zq1,zq2,zq3,zq4,zq5,Is] at hK⊢
  refine jF ?_
  go_simp
  exact hK _ _ _ rfl (jC.refl _) rfl
 ·intro y w2' hG hD K hK
  simp only[jM,zq4,zq5,Is,and_true] at hD
  have h0:=hD
  clear hD
  have dc0:=hG.cell c0
  simp only[jD,Act.put,zq1,zq2,zq3,zq4,zq5,Is] at hK⊢
  rw[h0] at hK⊢
  clear h0
  refine jF ?_
  go_simp
  exact hK _ _ _ rfl (jC.refl _) rfl
 ·intro y w2' hG hD K hK
  simp only[jM,zq4,zq5,Is,and_true] at hD
  have h1:=hD
  clear hD
  simp only[jD,Act.put,zq1,zq2,zq3,zq4,zq5,Is] at hK⊢
  rw[h1] at hK⊢
  clear h1
  refine jF ?_
  go_simp
  refine (aW k _ H12.out.1 H12.out.2).mono ?_
  rintro r w3 ⟨rfl,rfl⟩
  exact hK _ _ _ rfl (jC.refl _) rfl
 ·intro y w2' hG hD K hK
  simp only[jD,Act.put,zq1,zq2,zq3,zq4,zq5,Is] at hK⊢
  refine jF ?_
  go_simp
  exact hK _ _ _ rfl (jC.refl _) rfl
 ·intro y w2' hG hD K hK
  simp only[jM,zq4,zq5,Is,and_true] at hD
  have h3:=hD
  clear hD
  have dc0:=hG.cell c0
  simp only[jD,Act.put,zq1,zq2,zq3,zq4,zq5,Is] at hK⊢
  rw[h3] at hK⊢
  clear h3
  refine jF ?_
  go_simp
  exact hK _ _ _ rfl (jC.refl _) rfl
 ·intro y w2' hG hD K hK
  simp only[jM,zq4,zq5,Is,and_true] at hD
  have h4:=hD
  clear hD
  simp only[jD,Act.put,zq1,zq2,zq3,zq4,zq5,Is] at hK⊢
  rw[h4] at hK⊢
  clear h4
  refine jF ?_
  go_simp
  refine (aX k _ H12.out.1 H12.out.2).mono ?_
  rintro r w3 ⟨rfl,rfl⟩
  exact hK _ _ _ rfl (jC.refl _) rfl
 ·intro y w2' hG hD K hK
  simp only[jD,Act.put,zq1,zq2,zq3,zq4,zq5,Is] at hK⊢
  refine jF ?_
  go_simp
  exact hK _ _ _ rfl ((jC.refl _).alloc _) ⟨_,rfl,hG.size,heap_alloc_new _ _⟩
 ·intro y w2' hG hD K hK
  simp only[jM,zq4,zq5,Is,and_true] at hD
  have h2:=hD
  clear hD
  simp only[jD,Act.put,zq1,zq2,zq3,zq4,zq5,Is] at hK⊢
  rw[h2] at hK⊢
  clear h2
  refine jF ?_
  go_simp
  exact hK _ _ _ rfl (jC.refl _) rfl
 ·intro y w2' hG hF K hK
  simp only[zH,Is,and_true,Nat.reduceAdd] at hF
  have h0:=hF.1
  have h1:=hF.2.1
  have h2:=hF.2.2.1
  have h3:=hF.2.2.2.1
  have h4:=hF.2.2.2.2.1
  have h5:=hF.2.2.2.2.2.1
  have h6:=hF.2.2.2.2.2.2.1
  have h7:=hF.2.2.2.2.2.2.2
  clear hF
  simp only[yK]
  simp only[jD,Act.put,zq1,zq2,zq3,zq4,zq5,Is] at hK⊢
  rw[h0,h1,h2,h3,h4,h5,h7]
  clear h0 h1 h2 h3 h4 h5 h7
  refine jF ?_
  refine Exists.elim h6 fun g h=>?_
  have hs6:=h.1
  have hgB:=h.2.1
  have jP:=h.2.2
  clear h h6
  rw[hs6]
  clear hs6
  have f0:=jB jP 0
  have d0:=jA jP 0 _ rfl
  have hrow2:(w2'.setCell ⟨g,0,none⟩ (.int .i64 (kR k))).heap[g]? = some (.cells #[.int .i64 (kR k)] 3 (0,0)):=by have:=heap_setCell_same w2' g 0 _ _ (.int .i64 (kR k)) jP;simpa using this
  have hmv:Moved (fun q=>q=g) w2' (w2'.setCell ⟨g,0,none⟩ (.int .i64 (kR k))):=Moved.setCell (S:=fun q=>q=g) (p:=⟨g,0,none⟩) (Moved.refl _ w2') (fun _=>rfl) _
  have hgr:jC w1 _:=Moved.fresh hG hmv (fun q e=>by omega)
  clear hG jP hmv
  go_simp
  refine hK _ _ ?_
  clear f0 d0 hK
  generalize (w2'.setCell ⟨g,0,none⟩ (.int .i64 (kR k)))=w3 at *
  have hb3:=hgr.heap HB1.out
  have HGC:=zh (HG.out.trans hgr)
  replace c0:=jA hb3 0 _ rfl
  have c1:=jA hb3 1 _ rfl
  have c2:=jA hb3 2 _ rfl
  have c3:=jA hb3 3 _ rfl
  have c4':=jA hb3 4 _ rfl
  have c5':=jA hb3 5 _ rfl
  have kA:Hid (Calls Try.prog 58 #[.slice a5 l.length c5,.func (.func 57) #[] #[.pointer (some ⟨g,0,none⟩)]] w3 fun r w'=>r=.returned (.bool (l.any (jS (kR k))))∧jC w3 w'):=YO (kR k) g l _ vs w3 (j8.out.grew HGC.out) (HK.out.grew HGC.out) (jA hrow2 0 _ rfl)
  clear hb3 hrow2 hgr hgB HB1 HG
  obtain⟨h1,h2⟩:=H12.out
  clear H12
  rcases Y5 k h1 h2 with rfl|rfl|rfl|rfl|rfl|rfl|rfl|rfl|rfl|rfl|rfl|rfl|rfl|rfl|rfl|rfl|rfl
  ·clear h1 h2
   rw[show jK 1=0 from rfl]
   have hm1:bits BinOp.and IntKind.i64 0 1=0:=by kernel_rfl
   have hm2:bits BinOp.and IntKind.i64 0 2=0:=by kernel_rfl
   have hm4:bits BinOp.and IntKind.i64 0 4=0:=by kernel_rfl
   have hm8:bits BinOp.and IntKind.i64 0 8=0:=by kernel_rfl
   go_wp2_with (go_at_call 58;refine kA.out.mono ?_;rintro r w4 ⟨rfl,hg⟩;have HGD:=zh (HGC.out.trans hg);clear hg)
   all_goals
    go_ret
    first
    | (refine⟨?_,HGD.out⟩
       clear kA HGC HK j8 HGD
       refine j6 ?_
       (simp_all [jJ,jK,List.length_pos_iff];try omega))
    | (refine⟨?_,HGC.out⟩
       clear kA HGC HK j8
       refine j6 ?_
       (simp_all [jJ,jK,List.length_pos_iff];try omega))
  ·clear h1 h2
   rw[show jK 2=1 from rfl]
   have hm1:bits BinOp.and IntKind.i64 1 1=1:=by kernel_rfl
   have hm2:bits BinOp.and IntKind.i64 1 2=0:=by kernel_rfl
   have hm4:bits BinOp.and IntKind.i64 1 4=0:=by kernel_rfl
   have hm8:bits BinOp.and IntKind.i64 1 8=0:=by kernel_rfl
   go_wp2_with (go_at_call 58;refine kA.out.mono ?_;rintro r w4 ⟨rfl,hg⟩;have HGD:=zh (HGC.out.trans hg);clear hg)
   all_goals
    go_ret
    first
    | (refine⟨?_,HGD.out⟩
       clear kA HGC HK j8 HGD
       refine j6 ?_
       (simp_all [jJ,jK,List.length_pos_iff];try omega))
    | (refine⟨?_,HGC.out⟩
       clear kA HGC HK j8
       refine j6 ?_
       (simp_all [jJ,jK,List.length_pos_iff];try omega))
  ·clear h1 h2
   rw[show jK 3=1 from rfl]
   have hm1:bits BinOp.and IntKind.i64 1 1=1:=by kernel_rfl
   have hm2:bits BinOp.and IntKind.i64 1 2=0:=by kernel_rfl
   have hm4:bits BinOp.and IntKind.i64 1 4=0:=by kernel_rfl
   have hm8:bits BinOp.and IntKind.i64 1 8=0:=by kernel_rfl
   go_wp2_with (go_at_call 58;refine kA.out.mono ?_;rintro r w4 ⟨rfl,hg⟩;have HGD:=zh (HGC.out.trans hg);clear hg)
   all_goals
    go_ret
    first
    | (refine⟨?_,HGD.out⟩
       clear kA HGC HK j8 HGD
       refine j6 ?_
       (simp_all [jJ,jK,List.length_pos_iff];try omega))
    | (refine⟨?_,HGC.out⟩
       clear kA HGC HK j8
       refine j6 ?_
       (simp_all [jJ,jK,List.length_pos_iff];try omega))
  ·clear h1 h2
   rw[show jK 4=2 from rfl]
   have hm1:bits BinOp.and IntKind.i64 2 1=0:=by kernel_rfl
   have hm2:bits BinOp.and IntKind.i64 2 2=2:=by kernel_rfl
   have hm4:bits BinOp.and IntKind.i64 2 4=0:=by kernel_rfl
   have hm8:bits BinOp.and IntKind.i64 2 8=0:=by kernel_rfl
   go_wp2_with (go_at_call 58;refine kA.out.mono ?_;rintro r w4 ⟨rfl,hg⟩;have HGD:=zh (HGC.out.trans hg);clear hg)
   all_goals
    go_ret
    first
    | (refine⟨?_,HGD.out⟩
       clear kA HGC HK j8 HGD
       refine j6 ?_
       (simp_all [jJ,jK,List.length_pos_iff];try omega))
    | (refine⟨?_,HGC.out⟩
       clear kA HGC HK j8
       refine j6 ?_
       (simp_all [jJ,jK,List.length_pos_iff];try omega))
  ·clear h1 h2
   rw[show jK 5=4 from rfl]
   have hm1:bits BinOp.and IntKind.i64 4 1=0:=by kernel_rfl
   have hm2:bits BinOp.and IntKind.i64 4 2=0:=by kernel_rfl
   have hm4:bits BinOp.and IntKind.i64 4 4=4:=by kernel_rfl
   have hm8:bits BinOp.and IntKind.i64 4 8=0:=by kernel_rfl
   go_wp2_with (go_at_call 58;refine kA.out.mono ?_;rintro r w4 ⟨rfl,hg⟩;have HGD:=zh (HGC.out.trans hg);clear hg)
   all_goals
    go_ret
    first
    | (refine⟨?_,HGD.out⟩
       clear kA HGC HK j8 HGD
       refine j6 ?_
       (simp_all [jJ,jK,List.length_pos_iff];try omega))
    | (refine⟨?_,HGC.out⟩
       clear kA HGC HK j8
       refine j6 ?_
       (simp_all [jJ,jK,List.length_pos_iff];try omega))
  ·clear h1 h2
   rw[show jK 6=4 from rfl]
   have hm1:bits BinOp.and IntKind.i64 4 1=0:=by kernel_rfl
   have hm2:bits BinOp.and IntKind.i64 4 2=0:=by kernel_rfl
   have hm4:bits BinOp.and IntKind.i64 4 4=4:=by kernel_rfl
   have hm8:bits BinOp.and IntKind.i64 4 8=0:=by kernel_rfl
   go_wp2_with (go_at_call 58;refine kA.out.mono ?_;rintro r w4 ⟨rfl,hg⟩;have HGD:=zh (HGC.out.trans hg);clear hg)
   all_goals
    go_ret
    first
    | (refine⟨?_,HGD.out⟩
       clear kA HGC HK j8 HGD
       refine j6 ?_
       (simp_all [jJ,jK,List.length_pos_iff];try omega))
    | (refine⟨?_,HGC.out⟩
       clear kA HGC HK j8
       refine j6 ?_
       (simp_all [jJ,jK,List.length_pos_iff];try omega))
  ·clear h1 h2
   rw[show jK 7=4 from rfl]
   have hm1:bits BinOp.and IntKind.i64 4 1=0:=by kernel_rfl
   have hm2:bits BinOp.and IntKind.i64 4 2=0:=by kernel_rfl
   have hm4:bits BinOp.and IntKind.i64 4 4=4:=by kernel_rfl
   have hm8:bits BinOp.and IntKind.i64 4 8=0:=by kernel_rfl
   go_wp2_with (go_at_call 58;refine kA.out.mono ?_;rintro r w4 ⟨rfl,hg⟩;have HGD:=zh (HGC.out.trans hg);clear hg)
   all_goals
    go_ret
    first
    | (refine⟨?_,HGD.out⟩
       clear kA HGC HK j8 HGD
       refine j6 ?_
       (simp_all [jJ,jK,List.length_pos_iff];try omega))
    | (refine⟨?_,HGC.out⟩
       clear kA HGC HK j8
       refine j6 ?_
       (simp_all [jJ,jK,List.length_pos_iff];try omega))
  ·clear h1 h2
   rw[show jK 8=1 from rfl]
   have hm1:bits BinOp.and IntKind.i64 1 1=1:=by kernel_rfl
   have hm2:bits BinOp.and IntKind.i64 1 2=0:=by kernel_rfl
   have hm4:bits BinOp.and IntKind.i64 1 4=0:=by kernel_rfl
   have hm8:bits BinOp.and IntKind.i64 1 8=0:=by kernel_rfl
   go_wp2_with (go_at_call 58;refine kA.out.mono ?_;rintro r w4 ⟨rfl,hg⟩;have HGD:=zh (HGC.out.trans hg);clear hg)
   all_goals
    go_ret
    first
    | (refine⟨?_,HGD.out⟩
       clear kA HGC HK j8 HGD
       refine j6 ?_
       (simp_all [jJ,jK,List.length_pos_iff];try omega))
    | (refine⟨?_,HGC.out⟩
       clear kA HGC HK j8
       refine j6 ?_
       (simp_all [jJ,jK,List.length_pos_iff];try omega))
  ·clear h1 h2
   rw[show jK 9=2 from rfl]
   have hm1:bits BinOp.and IntKind.i64 2 1=0:=by kernel_rfl
   have hm2:bits BinOp.and IntKind.i64 2 2=2:=by kernel_rfl
   have hm4:bits BinOp.and IntKind.i64 2 4=0:=by kernel_rfl
   have hm8:bits BinOp.and IntKind.i64 2 8=0:=by kernel_rfl
   go_wp2_with (go_at_call 58;refine kA.out.mono ?_;rintro r w4 ⟨rfl,hg⟩;have HGD:=zh (HGC.out.trans hg);clear hg)
   all_goals
    go_ret
    first
    | (refine⟨?_,HGD.out⟩
       clear kA HGC HK j8 HGD
       refine j6 ?_
       (simp_all [jJ,jK,List.length_pos_iff];try omega))
    | (refine⟨?_,HGC.out⟩
       clear kA HGC HK j8
       refine j6 ?_
       (simp_all [jJ,jK,List.length_pos_iff];try omega))
  ·clear h1 h2
   rw[show jK 10=0 from rfl]
   have hm1:bits BinOp.and IntKind.i64 0 1=0:=by kernel_rfl
   have hm2:bits BinOp.and IntKind.i64 0 2=0:=by kernel_rfl
   have hm4:bits BinOp.and IntKind.i64 0 4=0:=by kernel_rfl
   have hm8:bits BinOp.and IntKind.i64 0 8=0:=by kernel_rfl
   go_wp2_with (go_at_call 58;refine kA.out.mono ?_;rintro r w4 ⟨rfl,hg⟩;have HGD:=zh (HGC.out.trans hg);clear hg)
   all_goals
    go_ret
    first
    | (refine⟨?_,HGD.out⟩
       clear kA HGC HK j8 HGD
       refine j6 ?_
       (simp_all [jJ,jK,List.length_pos_iff];try omega))
    | (refine⟨?_,HGC.out⟩
       clear kA HGC HK j8
       refine j6 ?_
       (simp_all [jJ,jK,List.length_pos_iff];try omega))
  ·clear h1 h2
   rw[show jK 11=0 from rfl]
   have hm1:bits BinOp.and IntKind.i64 0 1=0:=by kernel_rfl
   have hm2:bits BinOp.and IntKind.i64 0 2=0:=by kernel_rfl
   have hm4:bits BinOp.and IntKind.i64 0 4=0:=by kernel_rfl
   have hm8:bits BinOp.and IntKind.i64 0 8=0:=by kernel_rfl
   go_wp2_with (go_at_call 58;refine kA.out.mono ?_;rintro r w4 ⟨rfl,hg⟩;have HGD:=zh (HGC.out.trans hg);clear hg)
   all_goals
    go_ret
    first
    | (refine⟨?_,HGD.out⟩
       clear kA HGC HK j8 HGD
       refine j6 ?_
       (simp_all [jJ,jK,List.length_pos_iff];try omega))
    | (refine⟨?_,HGC.out⟩
       clear kA HGC HK j8
       refine j6 ?_
       (simp_all [jJ,jK,List.length_pos_iff];try omega))
  ·clear h1 h2
   rw[show jK 12=0 from rfl]
   have hm1:bits BinOp.and IntKind.i64 0 1=0:=by kernel_rfl
   have hm2:bits BinOp.and IntKind.i64 0 2=0:=by kernel_rfl
   have hm4:bits BinOp.and IntKind.i64 0 4=0:=by kernel_rfl
   have hm8:bits BinOp.and IntKind.i64 0 8=0:=by kernel_rfl
   go_wp2_with (go_at_call 58;refine kA.out.mono ?_;rintro r w4 ⟨rfl,hg⟩;have HGD:=zh (HGC.out.trans hg);clear hg)
   all_goals
    go_ret
    first
    | (refine⟨?_,HGD.out⟩
       clear kA HGC HK j8 HGD
       refine j6 ?_
       (simp_all [jJ,jK,List.length_pos_iff];try omega))
    | (refine⟨?_,HGC.out⟩
       clear kA HGC HK j8
       refine j6 ?_
       (simp_all [jJ,jK,List.length_pos_iff];try omega))
  ·clear h1 h2
   rw[show jK 13=0 from rfl]
   have hm1:bits BinOp.and IntKind.i64 0 1=0:=by kernel_rfl
   have hm2:bits BinOp.and IntKind.i64 0 2=0:=by kernel_rfl
   have hm4:bits BinOp.and IntKind.i64 0 4=0:=by kernel_rfl
   have hm8:bits BinOp.and IntKind.i64 0 8=0:=by kernel_rfl
   go_wp2_with (go_at_call 58;refine kA.out.mono ?_;rintro r w4 ⟨rfl,hg⟩;have HGD:=zh (HGC.out.trans hg);clear hg)
   all_goals
    go_ret
    first
    | (refine⟨?_,HGD.out⟩
       clear kA HGC HK j8 HGD
       refine j6 ?_
       (simp_all [jJ,jK,List.length_pos_iff];try omega))
    | (refine⟨?_,HGC.out⟩
       clear kA HGC HK j8
       refine j6 ?_
       (simp_all [jJ,jK,List.length_pos_iff];try omega))
  ·clear h1 h2
   rw[show jK 14=0 from rfl]
   have hm1:bits BinOp.and IntKind.i64 0 1=0:=by kernel_rfl
   have hm2:bits BinOp.and IntKind.i64 0 2=0:=by kernel_rfl
   have hm4:bits BinOp.and IntKind.i64 0 4=0:=by kernel_rfl
   have hm8:bits BinOp.and IntKind.i64 0 8=0:=by kernel_rfl
   go_wp2_with (go_at_call 58;refine kA.out.mono ?_;rintro r w4 ⟨rfl,hg⟩;have HGD:=zh (HGC.out.trans hg);clear hg)
   all_goals
    go_ret
    first
    | (refine⟨?_,HGD.out⟩
       clear kA HGC HK j8 HGD
       refine j6 ?_
       (simp_all [jJ,jK,List.length_pos_iff];try omega))
    | (refine⟨?_,HGC.out⟩
       clear kA HGC HK j8
       refine j6 ?_
       (simp_all [jJ,jK,List.length_pos_iff];try omega))
  ·clear h1 h2
   rw[show jK 15=0 from rfl]
   have hm1:bits BinOp.and IntKind.i64 0 1=0:=by kernel_rfl
   have hm2:bits BinOp.and IntKind.i64 0 2=0:=by kernel_rfl
   have hm4:bits BinOp.and IntKind.i64 0 4=0:=by kernel_rfl
   have hm8:bits BinOp.and IntKind.i64 0 8=0:=by kernel_rfl
   go_wp2_with (go_at_call 58;refine kA.out.mono ?_;rintro r w4 ⟨rfl,hg⟩;have HGD:=zh (HGC.out.trans hg);clear hg)
   all_goals
    go_ret
    first
    | (refine⟨?_,HGD.out⟩
       clear kA HGC HK j8 HGD
       refine j6 ?_
       (simp_all [jJ,jK,List.length_pos_iff];try omega))
    | (refine⟨?_,HGC.out⟩
       clear kA HGC HK j8
       refine j6 ?_
       (simp_all [jJ,jK,List.length_pos_iff];try omega))
  ·clear h1 h2
   rw[show jK 16=0 from rfl]
   have hm1:bits BinOp.and IntKind.i64 0 1=0:=by kernel_rfl
   have hm2:bits BinOp.and IntKind.i64 0 2=0:=by kernel_rfl
   have hm4:bits BinOp.and IntKind.i64 0 4=0:=by kernel_rfl
   have hm8:bits BinOp.and IntKind.i64 0 8=0:=by kernel_rfl
   go_wp2_with (go_at_call 58;refine kA.out.mono ?_;rintro r w4 ⟨rfl,hg⟩;have HGD:=zh (HGC.out.trans hg);clear hg)
   all_goals
    go_ret
    first
    | (refine⟨?_,HGD.out⟩
       clear kA HGC HK j8 HGD
       refine j6 ?_
       (simp_all [jJ,jK,List.length_pos_iff];try omega))
    | (refine⟨?_,HGC.out⟩
       clear kA HGC HK j8
       refine j6 ?_
       (simp_all [jJ,jK,List.length_pos_iff];try omega))
  ·clear h1 h2
   rw[show jK 17=8 from rfl]
   have hm1:bits BinOp.and IntKind.i64 8 1=0:=by kernel_rfl
   have hm2:bits BinOp.and IntKind.i64 8 2=0:=by kernel_rfl
   have hm4:bits BinOp.and IntKind.i64 8 4=0:=by kernel_rfl
   have hm8:bits BinOp.and IntKind.i64 8 8=8:=by kernel_rfl
   go_wp2_with (go_at_call 58;refine kA.out.mono ?_;rintro r w4 ⟨rfl,hg⟩;have HGD:=zh (HGC.out.trans hg);clear hg)
   all_goals
    go_ret
    first
    | (refine⟨?_,HGD.out⟩
       clear kA HGC HK j8 HGD
       refine j6 ?_
       (simp_all [jJ,jK,List.length_pos_iff];try omega))
    | (refine⟨?_,HGC.out⟩
       clear kA HGC HK j8
       refine j6 ?_
       (simp_all [jJ,jK,List.length_pos_iff];try omega))
def Y6 (u:Int):Value:=if u < 9223372036854775808 then .agg #[.int .i64 3,.int .i64 u,.int .u64 0,.string ⟨#[]⟩,.slice none 0 0,.slice none 0 0] else .agg #[.int .i64 4,.int .i64 0,.int .u64 u,.string ⟨#[]⟩,.slice none 0 0,.slice none 0 0]
theorem V5 (k n u:Int) (s:ByteArray) (a4:Option Addr) (n4 c4:Nat) (a5:Option Addr) (n5 c5:Nat) (w:World):Calls Try.prog 46 #[.agg #[.int .i64 k,.int .i64 n,.int .u64 u,.string s,.slice a4 n4 c4,.slice a5 n5 c5]] w fun r w'=>r=.returned (.agg #[.int .i64 10,.int .i64 0,.int .u64 0,.string ⟨#[]⟩,.slice none 0 0,.slice a5 n5 c5])∧jC w w':=by
 go_enter Try.func46,Try.ntmps46
 go_wp2_with fail
 have hg1:=(jC.refl w).alloc (.cells #[.int .i64 k,.int .i64 n,.int .u64 u,.string s,.slice a4 n4 c4,.slice a5 n5 c5] 26)
 have hs1:(w.alloc (.cells #[.int .i64 k,.int .i64 n,.int .u64 u,.string s,.slice a4 n4 c4,.slice a5 n5 c5] 26)).heap.size=w.heap.size+1:=World.size_alloc _ _
 generalize (w.alloc (.cells #[.int .i64 k,.int .i64 n,.int .u64 u,.string s,.slice a4 n4 c4,.slice a5 n5 c5] 26))=w1 at *
 have hb:=heap_alloc_new w1 (.cells #[.int .i64 10,.int .i64 0,.int .u64 0,.string ⟨#[]⟩,.slice none 0 0,.slice a5 n5 c5] 26)
 have hg:=hg1.trans ((jC.refl w1).alloc (.cells #[.int .i64 10,.int .i64 0,.int .u64 0,.string ⟨#[]⟩,.slice none 0 0,.slice a5 n5 c5] 26))
 rw[hs1] at hb
 generalize (w1.alloc (.cells #[.int .i64 10,.int .i64 0,.int .u64 0,.string ⟨#[]⟩,.slice none 0 0,.slice a5 n5 c5] 26))=w2 at *
 have z0:=jA hb 0 _ rfl
 have z1:=jA hb 1 _ rfl
 have z2:=jA hb 2 _ rfl
 have z3:=jA hb 3 _ rfl
 have z4:=jA hb 4 _ rfl
 have z5:=jA hb 5 _ rfl
 refine bodyPost_ret (v:=.agg #[.int .i64 10,.int .i64 0,.int .u64 0,.string ⟨#[]⟩,.slice none 0 0,.slice a5 n5 c5]) (by simp[results,Try.results46,go_sem,z0,z1,z2,z3,z4,z5]) rfl ?_
 exact⟨rfl,hg⟩
theorem V6 (k n u:Int) (s:ByteArray) (a4:Option Addr) (n4 c4:Nat) (a5:Option Addr) (n5 c5:Nat) (w:World):Calls Try.prog 48 #[.agg #[.int .i64 k,.int .i64 n,.int .u64 u,.string s,.slice a4 n4 c4,.slice a5 n5 c5]] w fun r w'=>r=.returned (.agg #[.int .i64 6,.int .i64 0,.int .u64 0,.string s,.slice none 0 0,.slice none 0 0])∧jC w w':=by
 go_enter Try.func48,Try.ntmps48
 go_wp2_with fail
 have hg1:=(jC.refl w).alloc (.cells #[.int .i64 k,.int .i64 n,.int .u64 u,.string s,.slice a4 n4 c4,.slice a5 n5 c5] 26)
 have hs1:(w.alloc (.cells #[.int .i64 k,.int .i64 n,.int .u64 u,.string s,.slice a4 n4 c4,.slice a5 n5 c5] 26)).heap.size=w.heap.size+1:=World.size_alloc _ _
 generalize (w.alloc (.cells #[.int .i64 k,.int .i64 n,.int .u64 u,.string s,.slice a4 n4 c4,.slice a5 n5 c5] 26))=w1 at *
 have hb:=heap_alloc_new w1 (.cells #[.int .i64 6,.int .i64 0,.int .u64 0,.string s,.slice none 0 0,.slice none 0 0] 26)
 have hg:=hg1.trans ((jC.refl w1).alloc (.cells #[.int .i64 6,.int .i64 0,.int .u64 0,.string s,.slice none 0 0,.slice none 0 0] 26))
 rw[hs1] at hb
 generalize (w1.alloc (.cells #[.int .i64 6,.int .i64 0,.int .u64 0,.string s,.slice none 0 0,.slice none 0 0] 26))=w2 at *
 have z0:=jA hb 0 _ rfl
 have z1:=jA hb 1 _ rfl
 have z2:=jA hb 2 _ rfl
 have z3:=jA hb 3 _ rfl
 have z4:=jA hb 4 _ rfl
 have z5:=jA hb 5 _ rfl
 refine bodyPost_ret (v:=.agg #[.int .i64 6,.int .i64 0,.int .u64 0,.string s,.slice none 0 0,.slice none 0 0]) (by simp[results,Try.results48,go_sem,z0,z1,z2,z3,z4,z5]) rfl ?_
 exact⟨rfl,hg⟩
theorem J1 (x:Int) (xt:TypeId) (w:World):(Instr.typeAssert (.iface 2 (.int .i64 x)) xt 2 true).run Try.prog w=.ok (.tuple #[.int .i64 x,.bool true]) w:=by
 simp[Instr.typeAssert,run_underlying Try.underlying2,Result.andThen]
theorem J2 (x:Int) (xt:TypeId) (w:World):(Instr.typeAssert (.iface 22 (.int .u64 x)) xt 2 true).run Try.prog w=.ok (.tuple #[.int .i64 0,.bool false]) w:=by
 have hz:(zeroValue 2).run Try.prog w=.ok (.int .i64 0) w:=by
  have h:(Try.prog.info? 2).map (fun i=>i.zero)=some (some (.int .i64 0)):=by kernel_rfl
  cases hi:Try.prog.info? 2 with
  | none=>rw[hi] at h;cases h
  | some i=>rw[hi] at h;simp at h;simp[zeroValue,typeInfo,hi,h,Result.andThen]
 simp[Instr.typeAssert,run_underlying Try.underlying2,Result.andThen,hz]
theorem J3 (x:Int) (xt:TypeId) (w:World):(Instr.typeAssert (.iface 22 (.int .u64 x)) xt 22 true).run Try.prog w=.ok (.tuple #[.int .u64 x,.bool true]) w:=by
 simp[Instr.typeAssert,run_underlying Try.underlying22,Result.andThen]
theorem Y7 (x:Int) (w:World):Calls Try.prog 45 #[.iface 2 (.int .i64 x)] w fun r w'=>r=.returned (.agg #[.int .i64 3,.int .i64 x,.int .u64 0,.string ⟨#[]⟩,.slice none 0 0,.slice none 0 0])∧jC w w':=by
 have q1:=J1 x
 have q2:=J2 x
 have q3:=J3 x
 go_enter Try.func45,Try.ntmps45
 go_wp2_with fail
 have hb:=heap_alloc_new w (.cells #[.int .i64 3,.int .i64 x,.int .u64 0,.string ⟨#[]⟩,.slice none 0 0,.slice none 0 0] 26)
 have hg:=(jC.refl w).alloc (.cells #[.int .i64 3,.int .i64 x,.int .u64 0,.string ⟨#[]⟩,.slice none 0 0,.slice none 0 0] 26)
 generalize (w.alloc (.cells #[.int .i64 3,.int .i64 x,.int .u64 0,.string ⟨#[]⟩,.slice none 0 0,.slice none 0 0] 26))=w2 at *
 have z0:=jA hb 0 _ rfl
 have z1:=jA hb 1 _ rfl
 have z2:=jA hb 2 _ rfl
 have z3:=jA hb 3 _ rfl
 have z4:=jA hb 4 _ rfl
 have z5:=jA hb 5 _ rfl
 refine bodyPost_ret (v:=.agg #[.int .i64 3,.int .i64 x,.int .u64 0,.string ⟨#[]⟩,.slice none 0 0,.slice none 0 0]) (by simp[results,Try.results45,go_sem,z0,z1,z2,z3,z4,z5]) rfl ?_
 exact⟨rfl,hg⟩
theorem Y8 (x:Int) (w:World) (h0:0≤x) (h1:x < 9223372036854775808) (hw:IntKind.i64.wrap x=x):Calls Try.prog 45 #[.iface 22 (.int .u64 x)] w fun r w'=>r=.returned (.agg #[.int .i64 3,.int .i64 x,.int .u64 0,.string ⟨#[]⟩,.slice none 0 0,.slice none 0 0])∧jC w w':=by
 have q1:=J1 x
 have q2:=J2 x
 have q3:=J3 x
 go_enter Try.func45,Try.ntmps45
 go_wp2_with fail
 have hb:=heap_alloc_new w (.cells #[.int .i64 3,.int .i64 x,.int .u64 0,.string ⟨#[]⟩,.slice none 0 0,.slice none 0 0] 26)
 have hg:=(jC.refl w).alloc (.cells #[.int .i64 3,.int .i64 x,.int .u64 0,.string ⟨#[]⟩,.slice none 0 0,.slice none 0 0] 26)
 generalize (w.alloc (.cells #[.int .i64 3,.int .i64 x,.int .u64 0,.string ⟨#[]⟩,.slice none 0 0,.slice none 0 0] 26))=w2 at *
 have z0:=jA hb 0 _ rfl
 have z1:=jA hb 1 _ rfl
 have z2:=jA hb 2 _ rfl
 have z3:=jA hb 3 _ rfl
 have z4:=jA hb 4 _ rfl
 have z5:=jA hb 5 _ rfl
 refine bodyPost_ret (v:=.agg #[.int .i64 3,.int .i64 x,.int .u64 0,.string ⟨#[]⟩,.slice none 0 0,.slice none 0 0]) (by simp[results,Try.results45,go_sem,z0,z1,z2,z3,z4,z5]) rfl ?_
 exact⟨rfl,hg⟩
theorem Y9 (x:Int) (w:World) (h0:0≤x) (h1:¬x < 9223372036854775808):Calls Try.prog 45 #[.iface 22 (.int .u64 x)] w fun r w'=>r=.returned (.agg #[.int .i64 4,.int .i64 0,.int .u64 x,.string ⟨#[]⟩,.slice none 0 0,.slice none 0 0])∧jC w w':=by
 have q1:=J1 x
 have q2:=J2 x
 have q3:=J3 x
 go_enter Try.func45,Try.ntmps45
 go_wp2_with fail
 have hb:=heap_alloc_new w (.cells #[.int .i64 4,.int .i64 0,.int .u64 x,.string ⟨#[]⟩,.slice none 0 0,.slice none 0 0] 26)
 have hg:=(jC.refl w).alloc (.cells #[.int .i64 4,.int .i64 0,.int .u64 x,.string ⟨#[]⟩,.slice none 0 0,.slice none 0 0] 26)
 generalize (w.alloc (.cells #[.int .i64 4,.int .i64 0,.int .u64 x,.string ⟨#[]⟩,.slice none 0 0,.slice none 0 0] 26))=w2 at *
 have z0:=jA hb 0 _ rfl
 have z1:=jA hb 1 _ rfl
 have z2:=jA hb 2 _ rfl
 have z3:=jA hb 3 _ rfl
 have z4:=jA hb 4 _ rfl
 have z5:=jA hb 5 _ rfl
 refine bodyPost_ret (v:=.agg #[.int .i64 4,.int .i64 0,.int .u64 x,.string ⟨#[]⟩,.slice none 0 0,.slice none 0 0]) (by simp[results,Try.results45,go_sem,z0,z1,z2,z3,z4,z5]) rfl ?_
 exact⟨rfl,hg⟩
theorem QA (x:Int) (h0:0≤x) (w:World):Calls Try.prog 45 #[.iface 22 (.int .u64 x)] w fun r w'=>r=.returned (Y6 x)∧jC w w':=by
 by_cases h1:x < 9223372036854775808
 ·have e:Y6 x=.agg #[.int .i64 3,.int .i64 x,.int .u64 0,.string ⟨#[]⟩,.slice none 0 0,.slice none 0 0]:=if_pos h1
  rw[e]
  exact Y8 x w h0 h1 (by rw[IntKind.wrap_i64];omega)
 ·have e:Y6 x=.agg #[.int .i64 4,.int .i64 0,.int .u64 x,.string ⟨#[]⟩,.slice none 0 0,.slice none 0 0]:=if_neg h1
  rw[e]
  exact Y9 x w h0 h1
theorem V7 (k n u:Int) (s:ByteArray) (a4:Option Addr) (n4 c4:Nat) (a5:Option Addr) (n5 c5:Nat) (w:World):Calls Try.prog 47 #[.agg #[.int .i64 k,.int .i64 n,.int .u64 u,.string s,.slice a4 n4 c4,.slice a5 n5 c5]] w fun r w'=>r=.returned (.agg #[.int .i64 3,.int .i64 n,.int .u64 0,.string ⟨#[]⟩,.slice none 0 0,.slice none 0 0])∧jC w w':=by
 go_enter Try.func47,Try.ntmps47
 go_wp2_with fail
 have hg1:=(jC.refl w).alloc (.cells #[.int .i64 k,.int .i64 n,.int .u64 u,.string s,.slice a4 n4 c4,.slice a5 n5 c5] 26)
 have hs1:(w.alloc (.cells #[.int .i64 k,.int .i64 n,.int .u64 u,.string s,.slice a4 n4 c4,.slice a5 n5 c5] 26)).heap.size=w.heap.size+1:=World.size_alloc _ _
 generalize (w.alloc (.cells #[.int .i64 k,.int .i64 n,.int .u64 u,.string s,.slice a4 n4 c4,.slice a5 n5 c5] 26))=w1 at *
 have hb:=heap_alloc_new w1 (.cells #[.int .i64 0,.int .i64 0,.int .u64 0,.string ⟨#[]⟩,.slice none 0 0,.slice none 0 0] 26)
 have hg:=hg1.trans ((jC.refl w1).alloc (.cells #[.int .i64 0,.int .i64 0,.int .u64 0,.string ⟨#[]⟩,.slice none 0 0,.slice none 0 0] 26))
 rw[hs1] at hb
 generalize (w1.alloc (.cells #[.int .i64 0,.int .i64 0,.int .u64 0,.string ⟨#[]⟩,.slice none 0 0,.slice none 0 0] 26))=w2 at *
 refine (Y7 n w2).mono ?_
 rintro r w3 ⟨rfl,hg3⟩
 have HB:=zh (hg3.heap hb)
 have HG:=zh (hg.trans hg3)
 have HN:=zh hg1.size
 obtain⟨c0,c1,c2,c3,c4',c5',hv⟩:∃c0 c1 c2 c3 c4' c5',Value.agg #[.int .i64 3,.int .i64 n,.int .u64 0,.string ⟨#[]⟩,.slice none 0 0,.slice none 0 0]=.agg #[.int .i64 c0,.int .i64 c1,.int .u64 c2,.string c3,c4',c5']∧c4'=.slice none 0 0∧c5'=.slice none 0 0:=⟨_,_,_,_,_,_,rfl,rfl,rfl⟩
 obtain⟨hv,rfl,rfl⟩:=hv
 have HV:=zh hv
 rw[hv]
 clear hb hg hg1 hg3 hs1 hv
 have z0:=jA HB.out 0 _ rfl
 have z1:=jA HB.out 1 _ rfl
 have z2:=jA HB.out 2 _ rfl
 have z3:=jA HB.out 3 _ rfl
 have z4:=jA HB.out 4 _ rfl
 have z5:=jA HB.out 5 _ rfl
 have f0:=jB HB.out 0
 have f1:=jB HB.out 1
 have f2:=jB HB.out 2
 have f3:=jB HB.out 3
 have f4:=jB HB.out 4
 have f5:=jB HB.out 5
 have hm:Moved (fun q=>q=w.heap.size+1) w3 (jH w3 (w.heap.size+1) (.int .i64 c0) (.int .i64 c1) (.int .u64 c2) (.string c3) (.slice none 0 0) (.slice none 0 0)):=kC w3 _ _ _ _ _ _ _
 have HF:=zh (Moved.fresh HG.out hm (fun q e=>by omega))
 clear hm
 go_wp2_with fail
 refine bodyPost_ret (v:=.agg #[.int .i64 c0,.int .i64 c1,.int .u64 c2,.string c3,.slice none 0 0,.slice none 0 0]) (by simp[results,Try.results47,go_sem,z0,z1,z2,z3,z4,z5]) rfl ?_
 exact⟨by rw[HV.out],HF.out⟩
theorem Z3 (k n u:Int) (s:ByteArray) (a4:Option Addr) (n4 c4:Nat) (a5:Option Addr) (n5 c5:Nat) (w:World) (h0:0≤u):Calls Try.prog 44 #[.agg #[.int .i64 k,.int .i64 n,.int .u64 u,.string s,.slice a4 n4 c4,.slice a5 n5 c5]] w fun r w'=>r=.returned (Y6 u)∧jC w w':=by
 go_enter Try.func44,Try.ntmps44
 go_wp2_with fail
 have hg1:=(jC.refl w).alloc (.cells #[.int .i64 k,.int .i64 n,.int .u64 u,.string s,.slice a4 n4 c4,.slice a5 n5 c5] 26)
 have hs1:(w.alloc (.cells #[.int .i64 k,.int .i64 n,.int .u64 u,.string s,.slice a4 n4 c4,.slice a5 n5 c5] 26)).heap.size=w.heap.size+1:=World.size_alloc _ _
 generalize (w.alloc (.cells #[.int .i64 k,.int .i64 n,.int .u64 u,.string s,.slice a4 n4 c4,.slice a5 n5 c5] 26))=w1 at *
 have hb:=heap_alloc_new w1 (.cells #[.int .i64 0,.int .i64 0,.int .u64 0,.string ⟨#[]⟩,.slice none 0 0,.slice none 0 0] 26)
 have hg:=hg1.trans ((jC.refl w1).alloc (.cells #[.int .i64 0,.int .i64 0,.int .u64 0,.string ⟨#[]⟩,.slice none 0 0,.slice none 0 0] 26))
 rw[hs1] at hb
 generalize (w1.alloc (.cells #[.int .i64 0,.int .i64 0,.int .u64 0,.string ⟨#[]⟩,.slice none 0 0,.slice none 0 0] 26))=w2 at *
 refine (QA u h0 w2).mono ?_
 rintro r w3 ⟨rfl,hg3⟩
 have HB:=zh (hg3.heap hb)
 have HG:=zh (hg.trans hg3)
 have HN:=zh hg1.size
 obtain⟨c0,c1,c2,c3,c4',c5',hv⟩:∃c0 c1 c2 c3 c4' c5',Y6 u=.agg #[.int .i64 c0,.int .i64 c1,.int .u64 c2,.string c3,c4',c5']∧c4'=.slice none 0 0∧c5'=.slice none 0 0:=(by unfold Y6;split<;>exact⟨_,_,_,_,_,_,rfl,rfl,rfl⟩)
 obtain⟨hv,rfl,rfl⟩:=hv
 have HV:=zh hv
 rw[hv]
 clear hb hg hg1 hg3 hs1 hv
 have z0:=jA HB.out 0 _ rfl
 have z1:=jA HB.out 1 _ rfl
 have z2:=jA HB.out 2 _ rfl
 have z3:=jA HB.out 3 _ rfl
 have z4:=jA HB.out 4 _ rfl
 have z5:=jA HB.out 5 _ rfl
 have f0:=jB HB.out 0
 have f1:=jB HB.out 1
 have f2:=jB HB.out 2
 have f3:=jB HB.out 3
 have f4:=jB HB.out 4
 have f5:=jB HB.out 5
 have hm:Moved (fun q=>q=w.heap.size+1) w3 (jH w3 (w.heap.size+1) (.int .i64 c0) (.int .i64 c1) (.int .u64 c2) (.string c3) (.slice none 0 0) (.slice none 0 0)):=kC w3 _ _ _ _ _ _ _
 have HF:=zh (Moved.fresh HG.out hm (fun q e=>by omega))
 clear hm
 go_wp2_with fail
 refine bodyPost_ret (v:=.agg #[.int .i64 c0,.int .i64 c1,.int .u64 c2,.string c3,.slice none 0 0,.slice none 0 0]) (by simp[results,Try.results44,go_sem,z0,z1,z2,z3,z4,z5]) rfl ?_
 exact⟨by rw[HV.out],HF.out⟩
end Go.Proofs.Ytfbeepkogcmlmaa
