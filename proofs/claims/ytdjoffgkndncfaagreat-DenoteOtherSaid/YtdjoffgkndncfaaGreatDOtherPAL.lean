/-Texts-/
import Derived.Test.YtdjoffgkndncfaaGreatDOtherPAK
import Derived.Lib.SliceRun
set_option linter.unusedVariables false
set_option linter.unusedSimpArgs false
set_option maxHeartbeats 32000000
set_option maxRecDepth 100000
namespace Go.Proofs.YtdjoffgkndncfaaGreat
open Go.Proofs.Tryz
open Go Go.ChangeShapes Go.WideShapes Go.ChangeAt Go.RowKit Go.Joins Go.Deep
theorem zG.empty (w:World):zG (w.alloc (.cells #[] 9)) w.heap.size (.slice (some ⟨w.heap.size,0,none⟩) 0 0) []:=World.ownsRow_made w #[] 0 (zr _) zd rfl
theorem EL (w:World) (v:Value) (l:List ByteArray) (h:zB w v l) (hl:l.length≤1099511627776) :
 Calls prog 69 #[v] w λr w'=>∃v',r=.returned v'∧zG w' w.heap.size v' l∧jC w w':=by
 have HX:=zh h;obtain⟨a,c,rfl,_,_,zX,kM⟩:=h
 cases a with
 | none=>
  obtain rfl:=zX rfl
  have h0:l=[]:=by
   cases l with
   | nil=>rfl
   | cons y r=>obtain⟨_,b,off,e,_⟩:=kM 0 y rfl;cases e
  subst h0;clear kM zX;go_enter func69,ntmps69;have hq:∀w0:World,Sem.run prog (binOp .eql 23 (.slice none 0 0) (.slice none 0 0)) w0=.ok (.bool true) w0:=λw0=>Lib.run_eql_slice_nil w0 23 9 none 0 0 0 0 underlying23;go_wp2;go_ret;exact⟨_,rfl,zG.nil _ _,jC.refl _⟩
 | some ad=>
  clear kM zX;have hq:∀w0:World,Sem.run prog (binOp .eql 23 (.slice (some ad) l.length c) (.slice none 0 0)) w0=.ok (.bool false) w0:=λw0=>Lib.run_eql_slice_nil w0 23 9 (some ad) l.length c 0 0 underlying23;have j5:Hid (∀T,T=9→zG (w.alloc (.cells #[] T)) w.heap.size (.slice (some ⟨w.heap.size,0,none⟩) 0 0) []):=λT e=>by subst e;exact zG.empty w
  go_enter func69,ntmps69;go_wp2_with (at_builtin;refine J6 rfl _ _ rfl w.heap.size (.slice (some ⟨w.heap.size,0,none⟩) 0 0) [] rfl (j5.out _ rfl) _ l rfl (HX.grew ((jC.refl w).alloc _)) zp6 zp2 ?_;intro v' w3 hown2 hgr hqq;obtain⟨va2,vc2,rfl,_,_,_⟩:=jR hown2;have HO:=zh (qa hown2 (uN (j5.out _ rfl) ((jC.refl w).alloc _) hgr));clear hown2 hgr hqq);go_ret;exact⟨_,rfl,by simpa using HO.1,HO.2⟩
theorem dN:∀(m:Nat) (t:Tr),t.size≤m→∀(v:Value) (w:World),jM w t v→Few t →
 Calls prog 44 #[v] w λr w'=>∃v',r=.returned v'∧qA w' w.heap.size t v' (JB w w')∧jC w w':=by
 intro m
 induction m with
 | zero=>intro t ht;have:=t.size_pos;omega
 | succ m ih=>
 intro t ht v w hn hf;obtain⟨k,n,u,s,keys,l⟩:=t;simp only[jM] at hn;obtain⟨hb,kv,lv,vs,rfl,hks,yU,zN⟩:=hn;simp only[Few] at hf;obtain⟨hf1,hf2,hf3⟩:=hf;have hkl:vs.length=l.length:=zN.length;have HKS:=zh hks;have HK:=zh zN;have HF3:=zh hf3;have HB:=zh hb;obtain⟨a4,c4,rfl,hx1,hx2,hx3,hx4⟩:=hks;clear hx1 hx2 hx3 hx4;have kU:=zh yU;obtain⟨a5,c5,rfl,hx1,hc5,hx3,hx4⟩:=yU;clear hx1 hx3 hx4;rw[hkl] at kU⊢
 have hkz:Hid (∀x∈keys,kI x.size):=λx hx=>by
  obtain⟨_,_,_,_,_,_,h⟩:=HKS.out;obtain⟨i,hi,rfl⟩:=List.mem_iff_getElem.1 hx;exact (h i _ (za hi)).1
 have hsz:∀x∈l,x.size≤m:=λx hx=>by have:=JC hx;simp only[Tr.size] at ht;omega
 have HSZ:=zh hsz;clear zN hf3 hb hsz ht hkl hc5;go_enter func44,ntmps44;go_wp2_with fail;obtain⟨hb1,hg1⟩:=sqal w (.cells #[.int .i64 k,.int .i64 n,.int .u64 u,.string s,.slice a4 keys.length c4,.slice a5 l.length c5] 26);have hs1:(w.alloc (.cells #[.int .i64 k,.int .i64 n,.int .u64 u,.string s,.slice a4 keys.length c4,.slice a5 l.length c5] 26)).heap.size=w.heap.size+1:=zm _ _;generalize w.alloc _=w1 at *;obtain⟨hb2,hg2⟩:=sqal w1 (.cells #[.int .i64 0,.int .i64 0,.int .u64 0,.string ⟨#[]⟩,.slice none 0 0,.slice none 0 0] 26);have hs2:(w1.alloc (.cells #[.int .i64 0,.int .i64 0,.int .u64 0,.string ⟨#[]⟩,.slice none 0 0,.slice none 0 0] 26)).heap.size=w1.heap.size+1:=zm _ _;rw[hs1] at hb2 hs2;generalize w1.alloc _=w2 at *;replace hb1:=hg2.heap hb1;have hG:=hg1.trans hg2;have hs2':w2.heap.size=w.heap.size+2:=by omega
 obtain⟨N,hN⟩:∃N,w.heap.size=N:=⟨_,rfl⟩;rw[hN] at hb1 hb2 hs2'⊢;have HN:=zh hN;have HS2:=zh hs2';have HG0:=zh hG;clear hs1 hs2 hs2' hg1 hg2 hN;refine (EL _ _ _ (HKS.grew hG) zo).mono ?_;rintro r w2' ⟨kv',rfl,hkv,hgk⟩;obtain⟨va,vc,rfl,hz1,hz2,hz3⟩:=jR hkv;replace hb1:=hgk.heap hb1;replace hb2:=hgk.heap hb2;have q5:=jE hb1 4;have q4:=jA hb1 4 _ rfl;obtain⟨w3,hw3⟩:∃w3,w2'.setCell ⟨N,4,none⟩ (.slice va keys.length vc)=w3:=⟨_,rfl⟩;have hm3:Moved (λg=>g=N) w2' w3:=by rw[← hw3];exact Moved.setCell (S:=λg=>g=N) (p:=⟨N,4,none⟩) (Moved.refl _ w2') (λ_=>rfl) _
 have hb3:w3.heap[N]? = some (.cells #[.int .i64 k,.int .i64 n,.int .u64 u,.string s,.slice va keys.length vc,.slice a5 l.length c5] 26 (0,0)):=by
  rw[← hw3];have:=heap_setCell_same w2' N 4 _ _ (.slice va keys.length vc) hb1;simpa using this
 have HB1':=zh hb3;have KP:=zh hb3;have HB2':=zh (hm3.heap hb2 zo);have HKV:Hid (zG w3 (N+2) (.slice va keys.length vc) keys):=JO (Moved.owns hm3 hkv (λg hg e=>KU hkv hb1 zd (by rw[hg,e]))) (by have:=HS2.out;omega);have HG3:Hid (jC w w3):=Moved.fresh (hG.trans hgk) hm3 (λg h=>by have:=HN.out;omega);have HW3:=zh hw3;have l5:=jA hb1 5 _ rfl;clear hb1 hb2 hb3 hm3 hw3 hkv hG hz1 hz2 hz3 hgk;go_wp2_with fail;rw[HW3];clear q4 q5
 go_loopw [3,13] (λv i wr=>∃kk:Nat,kk≤l.length∧i=.int .i64 kk∧Hid (J2 (λ_=>False) w3 wr v (l.take kk))) (λ_ i _=>l.length - (intOf i).toNat)
 case atStart=>exact⟨0,Nat.zero_le _,rfl,by show J2 _ _ _ _ _;exact J2.start _ _⟩
 case round=>
  obtain⟨kk,hkk,rfl,HW⟩:=hrel;have hgw:jC w3 wr:=by obtain⟨_,_,_,_,_,hm⟩:=HW.out;exact Moved.fresh (jC.refl _) hm (λg h=>h.elim)
  have HGW:=zh hgw;clear hgw;by_cases hlt:kk < l.length
  ·obtain⟨x,hx⟩:∃x,l[kk]? = some x:=⟨_,za hlt⟩;obtain⟨xv,hxv,hnx⟩:=HK.get hx;have hxm:x∈l:=qd hx;have HX:=zh (show l.take kk++[x]=l.take (kk+1) by rw[qo,hx];rfl);have HFX:=zh (HF3.mem hxm);have hxs:=HSZ.out x hxm;have hcall:Hid (∀w',jC w w'→jM w' x xv):=λw' hg=>hnx.grew hg
   obtain⟨b,off,rfl,hc6⟩:∃b off,a5=some ⟨b,off,none⟩∧yO wr b (off+kk*6) xv:=by
    obtain⟨a,c,e,_,_,_,h⟩:=kU.out;injection e with e1 e2 e3;subst e1;obtain⟨b,off,e,h6⟩:=h kk xv hxv;exact⟨b,off,e,h6.grew (HG3.trans HGW.out)⟩
   obtain⟨xk,xn,xu,xs,xa4,xn4,xc4,xa5,xn5,xc5,rfl⟩:=hnx.node6;obtain⟨e0,e1,e2,e3,e4,e5⟩:=hc6.get;clear hc6 hx hxv hnx hxm;have hlti:(kk:Int) < l.length:=by omega
   go_wp2_with fail;have HGR:=zh ((jC.refl wr).alloc (.cells #[.int .i64 xk,.int .i64 xn,.int .u64 xu,.string xs,.slice xa4 xn4 xc4,.slice xa5 xn5 xc5] 26));generalize wr.alloc _=ws at *;have HWS:Hid (J2 (λ_=>False) w3 ws u3 (l.take kk)):=HW.kept (Moved.of_grew HGR.out) (λ_ h=>h.elim) (λ_ h=>h);refine (ih x hxs _ ws (hcall.out ws (HG3.trans (HGW.trans HGR.out))) HFX.out).mono ?_;rintro r w4 ⟨xv,rfl,hox,hg4⟩;obtain⟨yk,yn,yu,ys,ya4,yn4,yc4,ya5,yn5,yc5,rfl⟩:=hox.node6;have HOX:=zh hox;have HG4:=zh hg4;obtain⟨vs4,S4,q1,q2,q3,q4⟩:=HWS.out;obtain⟨ga,gc,rfl,hz1,hz2,hz3⟩:=HWS.form;have HV4:Hid (vs4.length≤4096):=by show _≤_;rw[q2.length,qr];omega
   have HQ1:=zh q1;have HQ2:=zh q2;have HQ3:=zh q3;have HQ4:=zh q4;have HON:Hid (∀o,yM (w4.alloc o) w3.heap.size (.slice ga (l.take kk).length gc) vs4):=λo=>(q1.grew hg4).grew ((jC.refl _).alloc o);have HSZ4:Hid (∀o,w3.heap.size≤(w4.alloc o).heap.size):=λo=>zf (zf (zf HGW.size HGR.size) hg4.size) ((jC.refl w4).alloc o).size;clear q1 q2 q3 q4 hz1 hz2 hz3 hox hg4 HW HWS e0 e1 e2 e3 e4 e5;generalize l.take kk=L at *;go_wp2_with (at_builtin;refine vH rfl _ _ rfl w3.heap.size _ vs4 rfl (HON.out _) _ _ (.agg #[.int .i64 yk,.int .i64 yn,.int .u64 yu,.string ys,.slice ya4 yn4 yc4,.slice ya5 yn5 yc5]) rfl (qc _ _) ⟨_,_,_,_,_,_,_,_,_,_,rfl⟩ zp30 (HSZ4.out _) ?_;intro v' w5 j5 hgr hnx;obtain⟨va2,vc2,rfl,hz1,hz2,hz3⟩:=jR j5.1;have HG5:=zh (J2.step (R:=λ_=>False) (λg h=>h.elim) vs4 S4 HQ2.out HQ1.out HQ3.out HQ4.out HOX.out (Moved.of_grew HG4.out) _ j5 hgr hnx);clear j5 hgr hnx hz1 hz2 hz3);go_roundw
   case rel=>
    refine⟨kk+1,by omega,by go_num,?_⟩;show J2 _ _ _ _ _;rw[← HX.out];have hh:=HG5.out;rw[zb] at hh;exact hh
   case measure=>simp[intOf];omega
  have ek:kk=l.length:=by omega
  subst ek;have hw:=HW.out;rw[qn] at hw;have HE:=zh hw;have hgw:=HGW.out;have jK:=hgw.heap KP.out;have j7:=hgw.heap HB2'.out;have HROWW:=zh jK;have HRESW:=zh j7;have f5:=jE jK 5;have r0:=jE j7 0;have r1:=jE j7 1;have r2:=jE j7 2;have r3:=jE j7 3;have r4:=jE j7 4;have r5:=jE j7 5;obtain⟨d0,d1,d2,d3,d4,d5⟩:=sqr6 jK;obtain⟨z0,z1,z2,z3,z4,z5⟩:=sqr6 j7;obtain⟨ga,gc,rfl,hz1,hz2,hz3⟩:=HE.form;clear hw HW hgw jK j7 hz1 hz2 hz3;have hT:=aD wr N (N+1) (.int .i64 k) (.int .i64 n) (.int .u64 u) (.string s) (.slice va keys.length vc) (.slice ga l.length gc) (.slice ga l.length gc);have hTW:jC w (kW (wr.setCell ⟨N,5,none⟩ (.slice ga l.length gc)) (N+1) (.int .i64 k) (.int .i64 n) (.int .u64 u) (.string s) (.slice va keys.length vc) (.slice ga l.length gc)):=Moved.fresh (HG3.trans HGW.out) hT (λq hq=>by have h1:=HN.out;rcases hq with rfl | rfl<;>omega);have hkvW:zG wr (N+2) (.slice va keys.length vc) keys:=HKV.grew HGW.out
  have hfin:qA (kW (wr.setCell ⟨N,5,none⟩ (.slice ga l.length gc)) (N+1) (.int .i64 k) (.int .i64 n) (.int .u64 u) (.string s) (.slice va keys.length vc) (.slice ga l.length gc)) w.heap.size (.mk k n u s keys l) (.agg #[.int .i64 k,.int .i64 n,.int .u64 u,.string s,.slice va keys.length vc,.slice ga l.length gc]) (JB w (kW (wr.setCell ⟨N,5,none⟩ (.slice ga l.length gc)) (N+1) (.int .i64 k) (.int .i64 n) (.int .u64 u) (.string s) (.slice va keys.length vc) (.slice ga l.length gc))):=by
   have h1:=HN.out;have h3:N < w3.heap.size:=(zc.1 KP.out).1;have h4:N+1 < w3.heap.size:=(zc.1 HB2'.out).1;refine J2.tree (((HE.wider (λ_ h=>h.elim)).kept hT (λq hq=>?_) (λ_ h=>h))) ⟨HB.1,HB.2.1,HB.2.2.1,HB.2.2.2,hkz.out⟩ HG3.size ?_ (λq hq=>(qm HKV.out q hq).2)
   ·rcases hq with rfl|rfl<;>omega
   exact zb23
  have HFIN:=zh (qa hfin hTW);clear hT hTW hfin hkvW;go_wp2;refine bodyPost_ret (v:=.agg #[.int .i64 k,.int .i64 n,.int .u64 u,.string s,.slice va keys.length vc,.slice ga l.length gc]) (by simp[results,results44,go_sem,z0,z1,z2,z3,z4,z5]) rfl ?_;exact⟨_,rfl,HFIN.1,HFIN.2⟩
def k9 (k:Int):Int:=
 if k=2∨k=3∨k=8 then 1 else if k=4∨k=9 then 2 else if k=5∨k=6∨k=7 then 4 else if k=17 then 8 else 0
def YC (k:Int):Int:=
 if k=10∨k=17 then 0 else if k=11∨k=15 then 3 else if k=12∨k=16 then 4 else if k=13 then 5 else if k=14 then 2 else -1
theorem DF (k:Int) (h1:1≤k) (h2:k≤17):k=1∨k=2∨k=3∨k=4∨k=5∨k=6∨k=7∨k=8∨k=9∨k=10∨k=11∨k=12∨k=13∨k=14∨k=15∨k=16∨k=17:=by omega
theorem cA {P:Program} (t e:TypeId) (n:Nat) (cs:Array Value) (k:IntKind) (i:Int) (w:World) (h:P.underlying t=some (.array n e))
 (he:(isAgg e).run P w=.ok false w) (hs:(P.info? e).map (·.size)=some 1) (h0:0≤i) (h1:i < n) (v:Value) (hv:cs[i.toNat]? = some v) :
 (Instr.index t (.agg cs) (.int k i)).run P w=.ok v w:=by
 have hn:0≤i∧i < (n:Int):=⟨h0,h1⟩
 cases hq:P.info? e with
 | none=>simp[hq] at hs
 | some ie=>
  have hsz:ie.size=1:=by simpa [hq] using hs
  have hso:(sizeOf e).run P w=.ok 1 w:=by simp[sizeOf,typeInfo,hq,hsz]
  unfold Instr.index;simp[asIntOf,Sem.run_bind,Sem.run_pure,Result.andThen_ok,run_underlying h,hn,hso,part,he,hv]
theorem G8 (k:Int) (w:World) (h1:1≤k) (h2:k≤17):Calls prog 62 #[.int .i64 k] w λr w'=>r=.returned (.int .i64 (k9 k))∧w=w':=by
 have hx:∀w',(Instr.index 158 (.agg #[.int .i64 0,.int .i64 0,.int .i64 1,.int .i64 1,.int .i64 2,.int .i64 4,.int .i64 4,.int .i64 4,.int .i64 1,.int .i64 2,.int .i64 0,.int .i64 0,.int .i64 0,.int .i64 0,.int .i64 0,.int .i64 0,.int .i64 0,.int .i64 8]) (.int .i64 k)).run prog w'=.ok (.int .i64 (k9 k)) w':=λw'=>
  cA (P:=prog) 158 3 18 _ .i64 k w' underlying158 (Tryz.isAgg3 w') zk zo zo _ (by
   rcases DF k h1 h2 with rfl|rfl|rfl|rfl|rfl|rfl|rfl|rfl|rfl|rfl|rfl|rfl|rfl|rfl|rfl|rfl|rfl<;>rfl)
 go_enter func62,ntmps62;go_wp2;go_ret;exact⟨rfl,rfl⟩
theorem G9 (k:Int) (w:World) (h1:1≤k) (h2:k≤17):Calls prog 63 #[.int .i64 k] w λr w'=>r=.returned (.int .i64 (YC k))∧w=w':=by
 have hx:∀w',(Instr.index 158 (.agg #[.int .i64 0,.int .i64 (-1),.int .i64 (-1),.int .i64 (-1),.int .i64 (-1),.int .i64 (-1),.int .i64 (-1),.int .i64 (-1),.int .i64 (-1),.int .i64 (-1),.int .i64 0,.int .i64 3,.int .i64 4,.int .i64 5,.int .i64 2,.int .i64 3,.int .i64 4,.int .i64 0]) (.int .i64 k)).run prog w'=.ok (.int .i64 (YC k)) w':=λw'=>
  cA (P:=prog) 158 3 18 _ .i64 k w' underlying158 (Tryz.isAgg3 w') zk zo zo _ (by
   rcases DF k h1 h2 with rfl|rfl|rfl|rfl|rfl|rfl|rfl|rfl|rfl|rfl|rfl|rfl|rfl|rfl|rfl|rfl|rfl<;>rfl)
 go_enter func63,ntmps63;go_wp2;go_ret;exact⟨rfl,rfl⟩
def qW (p:Int) (x:Tr):Bool:=p != 0 && x.kind != p
theorem EM {w:World} {t:Tr} {k n u:Int} {s:ByteArray} {a4 a5:Option Addr} {n4 c4 n5 c5:Nat} (h:jM w t (.agg #[.int .i64 k,.int .i64 n,.int .u64 u,.string s,.slice a4 n4 c4,.slice a5 n5 c5])):k=t.kind:=by
 cases t;simp only[jM] at h;obtain⟨_,kv,lv,vs,e,_⟩:=h;injection e with e;injection e with e;simp at e;exact e.1
theorem EN (p:Int) (bp:Nat) (t:Tr) (v:Value) (w:World) (hn:jM w t v) (hb:w.cell? ⟨bp,0,none⟩=some (.int .i64 p)) :
 Calls prog 64 #[v,.pointer (some ⟨bp,0,none⟩)] w λr w'=>r=.returned (.bool (qW p t))∧jC w w':=by
 obtain⟨k,n,u,s,a4,n4,c4,a5,n5,c5,rfl⟩:=hn.node6;have HK:=zh (EM hn);clear hn;have hlt:bp < w.heap.size:=yc w _ hb;have hb2:∀o,(w.alloc o).cell? ⟨bp,0,none⟩=some (.int .i64 p):=λo=>((jC.refl w).alloc o).cell hb;by_cases hp:p=0
 ·have hq:(p != 0)=false:=by simp[hp]
  have HF:Hid (qW p t=false):=by show _=_;simp[qW,hp]
  clear hp;go_enter func64,ntmps64;go_wp2;go_ret;exact⟨by rw[HF];rfl,(jC.refl w).alloc _⟩
 have hq:(p != 0)=true:=by simp[hp]
 have HF:Hid (qW p t=(k != p)):=by show _=_;simp[qW,hp,HK.out]
 clear hp;go_enter func64,ntmps64;go_wp2;go_ret;exact⟨by rw[HF];rfl,(jC.refl w).alloc _⟩
def VX (p:Int):List Tr→Nat→Int
 | [],_=>-1
 | t::r,i=>if qW p t then i else VX p r (i+1)
theorem BH (p:Int) (l:List Tr) (k i:Nat) (x:Tr) (hx:l[k]? = some x) (h:∀y∈l.take k,qW p y=false) (ho:qW p x=true):VX p l i=((i+k:Nat):Int):=by
 induction l generalizing k i with
 | nil=>simp at hx
 | cons t r ih=>
  cases k with
  | zero=>simp at hx;subst hx;simp[VX,ho]
  | succ k=>
   have h0:qW p t=false:=h t zp2;rw[VX,h0];simp only[Bool.false_eq_true,if_false];rw[ih k (i+1) eV (λy hy=>h y (by simp[hy]))];congr 1;omega
theorem BI (p:Int) (l:List Tr) (i:Nat) (h:∀y∈l,qW p y=false):VX p l i = -1:=by
 induction l generalizing i with
 | nil=>rfl
 | cons t r ih=>rw[VX,h t zp2];simp only[Bool.false_eq_true,if_false];exact ih (i+1) (λy hy=>h y (by simp[hy]))
theorem H6 (p:Int) (l:List Tr) (i:Nat):decide (0≤VX p l i)=l.any (qW p):=by
 induction l generalizing i with
 | nil=>rfl
 | cons t r ih=>
  rw[VX,List.any_cons]
  cases h:qW p t with
  | true=>simp
  | false=>simpa using ih (i+1)
theorem n9 (p:Int) (bp:Nat) (l:List Tr) (lv:Value) (vs:List Value) (w:World) (hr:y9 w lv vs) (hk:kZ w l vs) (hb:w.cell? ⟨bp,0,none⟩=some (.int .i64 p)) :
 Calls prog 116 #[lv,.func (.func 64) #[] #[.pointer (some ⟨bp,0,none⟩)]] w λr w'=>r=.returned (.int .i64 (VX p l 0))∧jC w w':=by
 have HR:=zh hr;have HK:=zh hk;have HB:=zh hb;have hkl:=hk.length;obtain⟨a,c,rfl,hlc,hc,hz1,hz2⟩:=hr;unfold kI at hc;rw[hkl] at HR hlc⊢;have kE:l.length≤9223372036854775807:=by omega
 clear hz1 hz2 hk hb hkl hlc hc;go_enter func116,ntmps116;go_wp2_with fail
 go_loopw [8] (λi wr=>∃kk:Nat,kk≤l.length∧i=.int .i64 kk∧Hid ((∀y∈l.take kk,qW p y=false)∧jC w wr)) (λi _=>l.length - (intOf i).toNat)
 case atStart=>exact⟨0,Nat.zero_le _,rfl,by show _∧_;exact⟨by simp,jC.refl _⟩⟩
 case round=>
  obtain⟨kk,hkk,rfl,HW⟩:=hrel;by_cases hlt:kk < l.length
  ·obtain⟨x,hx⟩:∃x,l[kk]? = some x:=⟨_,za hlt⟩;obtain⟨xv,hxv,hnx⟩:=HK.get hx
   obtain⟨b,off,rfl,hc6⟩:∃b off,a=some ⟨b,off,none⟩∧yO wr b (off+kk*6) xv:=by
    obtain⟨a,c,e,_,_,_,h⟩:=HR.out;injection e with e1 e2 e3;subst e1;obtain⟨b,off,e,h6⟩:=h kk xv hxv;exact⟨b,off,e,h6.grew HW.2⟩
   obtain⟨xk,xn,xu,xs,xa4,xn4,xc4,xa5,xn5,xc5,rfl⟩:=hnx.node6;obtain⟨e0,e1,e2,e3,e4,e5⟩:=hc6.get;have HNX:=zh hnx;have HX:=zh hx;clear hc6 hx hxv hnx;have hlti:(kk:Int) < l.length:=by omega
   go_wp2_with fail;refine (EN p bp x _ _ (HNX.grew HW.2) (HW.2.cell HB.out)).mono ?_
   cases ho:qW p x with
   | false=>
    have HO:=zh ho;clear ho;rintro r w3 ⟨rfl,hg⟩;have HG:=zh (HW.2.trans hg);clear hg;go_wp2_with fail;go_roundw
    case rel=>
     refine⟨kk+1,by omega,by go_num,?_⟩;show _∧_;refine⟨λy hy=>?_,HG.out⟩;rw[qo,HX] at hy;rcases xf.1 hy with hy|hy
     ·exact HW.1 y hy
     simp at hy;subst hy;exact HO.out
    case measure=>simp[intOf];omega
   | true=>
    have HF:Hid (VX p l 0=(kk:Int)):=(by show _=_;rw[BH p l kk 0 x HX.out HW.1 ho,Nat.zero_add]);clear ho;rintro r w3 ⟨rfl,hg⟩;have HG:=zh (HW.2.trans hg);clear hg;go_wp2;go_ret;exact⟨by rw[HF];rfl,HG.out⟩
  have ek:kk=l.length:=by omega
  subst ek;have HF:Hid (VX p l 0 = -1):=BI p l 0 (by have h:=HW.1;rwa [qn] at h);go_wp2;go_ret;exact⟨by rw[HF];rfl,HW.2⟩
theorem sM (p:Int) (bp:Nat) (l:List Tr) (lv:Value) (vs:List Value) (w:World) (hr:y9 w lv vs) (hk:kZ w l vs) (hb:w.cell? ⟨bp,0,none⟩=some (.int .i64 p)) :
 Calls prog 65 #[lv,.func (.func 64) #[] #[.pointer (some ⟨bp,0,none⟩)]] w λr w'=>r=.returned (.bool (l.any (qW p)))∧jC w w':=by
 have hcall:=n9 p bp l lv vs w hr hk hb;obtain⟨a,c,rfl,hx⟩:=hr;have hf:=H6 p l 0;generalize VX p l 0=q at *;have HF:=zh hf;have HC:=zh hcall;clear hcall hx hf hk hb;go_enter func65,ntmps65;go_wp2_with fail;refine HC.mono ?_;rintro r w3 ⟨rfl,hg⟩;have HG:=zh hg;clear hg;go_wp2;go_ret;exact⟨by rw[← HF.out];rfl,HG.out⟩
def zD:Tr→Bool
 | .mk k n u s keys l=>decide (1≤k∧k≤17) && (decide (k9 k=1) || decide (n=0)) && (decide (k9 k=2) || decide (u=0)) && (decide (k9 k=4) || decide (s.toList=[])) && (decide (k9 k=8) || decide (keys.length=0)) &&
  (!decide (k=2) || decide (n=0) || decide (n=1)) && (!decide (k=17) || decide (keys.length=l.length)) && (!(decide (k=15) || decide (k=16)) || decide (2≤l.length∧l.length≤4)) && !(l.any (qW (YC k)))
theorem H7 (t:Tr) (v:Value) (w:World) (hn:jM w t v) :
 Calls prog 36 #[v] w λr w'=>r=.returned (.bool (zD t))∧jC w w':=by
 obtain⟨k,n,u,s,keys,l⟩:=t;simp only[jM] at hn;obtain⟨hb,kv,lv,vs,rfl,hks,yU,zN⟩:=hn;have hkl:=zN.length;have HK:=zh zN;obtain⟨a4,c4,rfl,hkc,hkm,hx3,hx4⟩:=hks;have kU:=zh yU;obtain⟨a5,c5,rfl,hll,hc5,hx5,hx6⟩:=yU;rw[hkl] at kU hll⊢;have kE:l.length≤9223372036854775807:=by unfold kI at hc5;omega
 have vC:keys.length≤9223372036854775807:=by unfold kI at hkm;omega
 clear hx3 hx4 hx5 hx6 hll hc5 hkl zN hkc hkm hb;by_cases h1:1≤k;rotate_left
 ·have HF:Hid (zD (.mk k n u s keys l)=false):=by show _=_;simp[zD,h1]
  have hlt:k < 1:=by omega
  clear h1;go_enter func36,ntmps36;go_wp2;go_ret;exact⟨by rw[HF];rfl,(jC.refl w).alloc _⟩
 by_cases h2:k≤17;rotate_left
 ·have HF:Hid (zD (.mk k n u s keys l)=false):=by show _=_;simp[zD,h2]
  have hlt:¬k < 1:=by omega
  have hgt:17 < k:=by omega
  clear h1 h2;go_enter func36,ntmps36;go_wp2;go_ret;exact⟨by rw[HF];rfl,(jC.refl w).alloc _⟩
 have hlt:¬k < 1:=by omega
 have hgt:¬17 < k:=by omega
 have H12:=zh (qa h1 h2);clear h1 h2;go_enter func36,ntmps36;go_wp2_with fail;obtain⟨hb1,hg1⟩:=sqal w (.cells #[.int .i64 k,.int .i64 n,.int .u64 u,.string s,.slice a4 keys.length c4,.slice a5 l.length c5] 26);generalize w.alloc _=w1 at *;obtain⟨N,hN⟩:∃N,w.heap.size=N:=⟨_,rfl⟩;rw[hN] at hb1⊢;clear hN;have HB1:=zh hb1;have HG:=zh hg1;have c0:=jA hb1 0 _ rfl;clear hb1 hg1 hlt hgt;refine vG jC [[],[0],[1],[],[3],[4],[],[2],[5,6]] [[(16,2),(17,3),(18,4),(19,5),(4,6),(3,7)],[(14,0),(17,3),(18,4),(19,5),(4,6),(3,7)],[(14,0),(15,1),(17,3),(18,4),(19,5),(4,6)],[(14,0),(15,1),(16,2),(19,5),(4,6),(3,7)],[(14,0),(15,1),(16,2),(17,3),(4,6),(3,7)],[(14,0),(15,1),(16,2),(17,3),(18,4),(4,6),(3,7)],[(14,0),(15,1),(16,2),(17,3),(18,4),(19,5),(3,7)],[(14,0),(15,1),(16,2),(17,3),(18,4),(19,5),(4,6)],[(14,0),(15,1),(16,2),(17,3),(18,4),(19,5),(4,6),(3,7)]]
  [Is (.pointer (some ⟨N,0,none⟩)),Is (.int .i64 k),Is (.int .i64 (k9 k)),Is (.pointer (some ⟨N,0,none⟩)),Is (.int .i64 k),Is (.int .i64 (YC k)),λv w=>∃g,v=.pointer (some ⟨g,0,none⟩)∧w1.heap.size≤g∧w.heap[g]? = some (.cells #[.int .i64 0] 3 (0,0)),Is (.int .i64 (k9 k))]
  zk jC.trans jC.refl (jC.refl _).drew zk ⟨jJ,jJ,jJ,jJ,jJ,jJ,λ_ _ _ hg h=>h.elim λq h=>⟨q,h.1,h.2.1,hg.heap h.2.2⟩,jJ,trivial⟩ rfl ⟨?_,?_,?_,?_,?_,?_,?_,?_,trivial⟩ ?_ rfl
 ·exact VW
 ·exact zb26
 ·intro y w2' hG hD K hK;simp only[kC,zq4,zq5,Is,and_true] at hD;simp only[jF,Act.put,zq,Is] at hK⊢;simp only[hD] at hK⊢;clear hD;refine jN ?_;go_simp;refine (G8 k _ H12.1 H12.2).mono ?_;rintro r w3 ⟨rfl,rfl⟩;exact hK _ _ _ rfl (jC.refl _) rfl
 ·exact VW
 ·exact zb26
 ·intro y w2' hG hD K hK;simp only[kC,zq4,zq5,Is,and_true] at hD;simp only[jF,Act.put,zq,Is] at hK⊢;simp only[hD] at hK⊢;clear hD;refine jN ?_;go_simp;refine (G9 k _ H12.1 H12.2).mono ?_;rintro r w3 ⟨rfl,rfl⟩;exact hK _ _ _ rfl (jC.refl _) rfl
 ·intro y w2' hG hD K hK;simp only[jF,Act.put,zq,Is] at hK⊢;refine jN ?_;go_simp;exact hK _ _ _ rfl ((jC.refl _).alloc _) ⟨_,rfl,hG.size,qc _ _⟩
 ·exact zb25
 intro y w2' hG hF K hK;simp only[zV,Is,and_true,Nat.reduceAdd] at hF;have h6:=hF.2.2.2.2.2.2.1;simp only[JS];simp only[jF,Act.put,zq,Is] at hK⊢;simp only[hF];clear hF;refine jN ?_;refine Exists.elim h6 λg h=>?_;have hs6:=h.1;have hgB:=h.2.1;have jK:=h.2.2;clear h h6;rw[hs6];clear hs6;have f0:=jE jK 0;have d0:=jA jK 0 _ rfl;have hrow2:(w2'.setCell ⟨g,0,none⟩ (.int .i64 (YC k))).heap[g]? = some (.cells #[.int .i64 (YC k)] 3 (0,0)):=by have:=heap_setCell_same w2' g 0 _ _ (.int .i64 (YC k)) jK;simpa using this
 have hmv:Moved (λq=>q=g) w2' (w2'.setCell ⟨g,0,none⟩ (.int .i64 (YC k))):=Moved.setCell (S:=λq=>q=g) (p:=⟨g,0,none⟩) (Moved.refl _ w2') (λ_=>rfl) _;have hgr:jC w1 _:=Moved.fresh hG hmv (λq e=>by omega);clear hG jK hmv;go_simp;refine hK _ _ ?_;clear f0 d0 hK;generalize (w2'.setCell ⟨g,0,none⟩ (.int .i64 (YC k)))=w3 at *;have hb3:=hgr.heap HB1.out;have HGC:=zh (HG.trans hgr);replace c0:=jA hb3 0 _ rfl;have c1:=jA hb3 1 _ rfl;have c2:=jA hb3 2 _ rfl;have c3:=jA hb3 3 _ rfl;have c4':=jA hb3 4 _ rfl;have c5':=jA hb3 5 _ rfl;have zS:Hid (Calls prog 65 #[.slice a5 l.length c5,.func (.func 64) #[] #[.pointer (some ⟨g,0,none⟩)]] w3 λr w'=>r=.returned (.bool (l.any (qW (YC k))))∧jC w3 w'):=sM (YC k) g l _ vs w3 (kU.grew HGC.out) (HK.grew HGC.out) (jA hrow2 0 _ rfl);clear hb3 hrow2 hgr hgB HB1 HG;obtain⟨h1,h2⟩:=H12.out;clear H12;rcases DF k h1 h2 with rfl|rfl|rfl|rfl|rfl|rfl|rfl|rfl|rfl|rfl|rfl|rfl|rfl|rfl|rfl|rfl|rfl
 ·clear h1 h2;rw[show k9 1=0 from rfl];have hm1:bits BinOp.and IntKind.i64 0 1=0:=by kernel_rfl
  have hm2:bits BinOp.and IntKind.i64 0 2=0:=by kernel_rfl
  have hm4:bits BinOp.and IntKind.i64 0 4=0:=by kernel_rfl
  have hm8:bits BinOp.and IntKind.i64 0 8=0:=by kernel_rfl
  go_wp2_with (go_at_call 65;refine zS.mono ?_;rintro r w4 ⟨rfl,hg⟩;have HGD:=zh (HGC.trans hg);clear hg)
  all_goals
   go_ret
   first
   | (refine⟨?_,HGD.out⟩
      clear zS HGC HK kU HGD;refine kP ?_
      (simp_all [zD,k9,qj];try omega))
   | (refine⟨?_,HGC.out⟩
      clear zS HGC HK kU;refine kP ?_
      (simp_all [zD,k9,qj];try omega))
 ·clear h1 h2;rw[show k9 2=1 from rfl];have hm1:bits BinOp.and IntKind.i64 1 1=1:=by kernel_rfl
  have hm2:bits BinOp.and IntKind.i64 1 2=0:=by kernel_rfl
  have hm4:bits BinOp.and IntKind.i64 1 4=0:=by kernel_rfl
  have hm8:bits BinOp.and IntKind.i64 1 8=0:=by kernel_rfl
  go_wp2_with (go_at_call 65;refine zS.mono ?_;rintro r w4 ⟨rfl,hg⟩;have HGD:=zh (HGC.trans hg);clear hg)
  all_goals
   go_ret
   first
   | (refine⟨?_,HGD.out⟩
      clear zS HGC HK kU HGD;refine kP ?_
      (simp_all [zD,k9,qj];try omega))
   | (refine⟨?_,HGC.out⟩
      clear zS HGC HK kU;refine kP ?_
      (simp_all [zD,k9,qj];try omega))
 ·clear h1 h2;rw[show k9 3=1 from rfl];have hm1:bits BinOp.and IntKind.i64 1 1=1:=by kernel_rfl
  have hm2:bits BinOp.and IntKind.i64 1 2=0:=by kernel_rfl
  have hm4:bits BinOp.and IntKind.i64 1 4=0:=by kernel_rfl
  have hm8:bits BinOp.and IntKind.i64 1 8=0:=by kernel_rfl
  go_wp2_with (go_at_call 65;refine zS.mono ?_;rintro r w4 ⟨rfl,hg⟩;have HGD:=zh (HGC.trans hg);clear hg)
  all_goals
   go_ret
   first
   | (refine⟨?_,HGD.out⟩
      clear zS HGC HK kU HGD;refine kP ?_
      (simp_all [zD,k9,qj];try omega))
   | (refine⟨?_,HGC.out⟩
      clear zS HGC HK kU;refine kP ?_
      (simp_all [zD,k9,qj];try omega))
 ·clear h1 h2;rw[show k9 4=2 from rfl];have hm1:bits BinOp.and IntKind.i64 2 1=0:=by kernel_rfl
  have hm2:bits BinOp.and IntKind.i64 2 2=2:=by kernel_rfl
  have hm4:bits BinOp.and IntKind.i64 2 4=0:=by kernel_rfl
  have hm8:bits BinOp.and IntKind.i64 2 8=0:=by kernel_rfl
  go_wp2_with (go_at_call 65;refine zS.mono ?_;rintro r w4 ⟨rfl,hg⟩;have HGD:=zh (HGC.trans hg);clear hg)
  all_goals
   go_ret
   first
   | (refine⟨?_,HGD.out⟩
      clear zS HGC HK kU HGD;refine kP ?_
      (simp_all [zD,k9,qj];try omega))
   | (refine⟨?_,HGC.out⟩
      clear zS HGC HK kU;refine kP ?_
      (simp_all [zD,k9,qj];try omega))
 ·clear h1 h2;rw[show k9 5=4 from rfl];have hm1:bits BinOp.and IntKind.i64 4 1=0:=by kernel_rfl
  have hm2:bits BinOp.and IntKind.i64 4 2=0:=by kernel_rfl
  have hm4:bits BinOp.and IntKind.i64 4 4=4:=by kernel_rfl
  have hm8:bits BinOp.and IntKind.i64 4 8=0:=by kernel_rfl
  go_wp2_with (go_at_call 65;refine zS.mono ?_;rintro r w4 ⟨rfl,hg⟩;have HGD:=zh (HGC.trans hg);clear hg)
  all_goals
   go_ret
   first
   | (refine⟨?_,HGD.out⟩
      clear zS HGC HK kU HGD;refine kP ?_
      (simp_all [zD,k9,qj];try omega))
   | (refine⟨?_,HGC.out⟩
      clear zS HGC HK kU;refine kP ?_
      (simp_all [zD,k9,qj];try omega))
 ·clear h1 h2;rw[show k9 6=4 from rfl];have hm1:bits BinOp.and IntKind.i64 4 1=0:=by kernel_rfl
  have hm2:bits BinOp.and IntKind.i64 4 2=0:=by kernel_rfl
  have hm4:bits BinOp.and IntKind.i64 4 4=4:=by kernel_rfl
  have hm8:bits BinOp.and IntKind.i64 4 8=0:=by kernel_rfl
  go_wp2_with (go_at_call 65;refine zS.mono ?_;rintro r w4 ⟨rfl,hg⟩;have HGD:=zh (HGC.trans hg);clear hg)
  all_goals
   go_ret
   first
   | (refine⟨?_,HGD.out⟩
      clear zS HGC HK kU HGD;refine kP ?_
      (simp_all [zD,k9,qj];try omega))
   | (refine⟨?_,HGC.out⟩
      clear zS HGC HK kU;refine kP ?_
      (simp_all [zD,k9,qj];try omega))
 ·clear h1 h2;rw[show k9 7=4 from rfl];have hm1:bits BinOp.and IntKind.i64 4 1=0:=by kernel_rfl
  have hm2:bits BinOp.and IntKind.i64 4 2=0:=by kernel_rfl
  have hm4:bits BinOp.and IntKind.i64 4 4=4:=by kernel_rfl
  have hm8:bits BinOp.and IntKind.i64 4 8=0:=by kernel_rfl
  go_wp2_with (go_at_call 65;refine zS.mono ?_;rintro r w4 ⟨rfl,hg⟩;have HGD:=zh (HGC.trans hg);clear hg)
  all_goals
   go_ret
   first
   | (refine⟨?_,HGD.out⟩
      clear zS HGC HK kU HGD;refine kP ?_
      (simp_all [zD,k9,qj];try omega))
   | (refine⟨?_,HGC.out⟩
      clear zS HGC HK kU;refine kP ?_
      (simp_all [zD,k9,qj];try omega))
 ·clear h1 h2;rw[show k9 8=1 from rfl];have hm1:bits BinOp.and IntKind.i64 1 1=1:=by kernel_rfl
  have hm2:bits BinOp.and IntKind.i64 1 2=0:=by kernel_rfl
  have hm4:bits BinOp.and IntKind.i64 1 4=0:=by kernel_rfl
  have hm8:bits BinOp.and IntKind.i64 1 8=0:=by kernel_rfl
  go_wp2_with (go_at_call 65;refine zS.mono ?_;rintro r w4 ⟨rfl,hg⟩;have HGD:=zh (HGC.trans hg);clear hg)
  all_goals
   go_ret
   first
   | (refine⟨?_,HGD.out⟩
      clear zS HGC HK kU HGD;refine kP ?_
      (simp_all [zD,k9,qj];try omega))
   | (refine⟨?_,HGC.out⟩
      clear zS HGC HK kU;refine kP ?_
      (simp_all [zD,k9,qj];try omega))
 ·clear h1 h2;rw[show k9 9=2 from rfl];have hm1:bits BinOp.and IntKind.i64 2 1=0:=by kernel_rfl
  have hm2:bits BinOp.and IntKind.i64 2 2=2:=by kernel_rfl
  have hm4:bits BinOp.and IntKind.i64 2 4=0:=by kernel_rfl
  have hm8:bits BinOp.and IntKind.i64 2 8=0:=by kernel_rfl
  go_wp2_with (go_at_call 65;refine zS.mono ?_;rintro r w4 ⟨rfl,hg⟩;have HGD:=zh (HGC.trans hg);clear hg)
  all_goals
   go_ret
   first
   | (refine⟨?_,HGD.out⟩
      clear zS HGC HK kU HGD;refine kP ?_
      (simp_all [zD,k9,qj];try omega))
   | (refine⟨?_,HGC.out⟩
      clear zS HGC HK kU;refine kP ?_
      (simp_all [zD,k9,qj];try omega))
 ·clear h1 h2;rw[show k9 10=0 from rfl];have hm1:bits BinOp.and IntKind.i64 0 1=0:=by kernel_rfl
  have hm2:bits BinOp.and IntKind.i64 0 2=0:=by kernel_rfl
  have hm4:bits BinOp.and IntKind.i64 0 4=0:=by kernel_rfl
  have hm8:bits BinOp.and IntKind.i64 0 8=0:=by kernel_rfl
  go_wp2_with (go_at_call 65;refine zS.mono ?_;rintro r w4 ⟨rfl,hg⟩;have HGD:=zh (HGC.trans hg);clear hg)
  all_goals
   go_ret
   first
   | (refine⟨?_,HGD.out⟩
      clear zS HGC HK kU HGD;refine kP ?_
      (simp_all [zD,k9,qj];try omega))
   | (refine⟨?_,HGC.out⟩
      clear zS HGC HK kU;refine kP ?_
      (simp_all [zD,k9,qj];try omega))
 ·clear h1 h2;rw[show k9 11=0 from rfl];have hm1:bits BinOp.and IntKind.i64 0 1=0:=by kernel_rfl
  have hm2:bits BinOp.and IntKind.i64 0 2=0:=by kernel_rfl
  have hm4:bits BinOp.and IntKind.i64 0 4=0:=by kernel_rfl
  have hm8:bits BinOp.and IntKind.i64 0 8=0:=by kernel_rfl
  go_wp2_with (go_at_call 65;refine zS.mono ?_;rintro r w4 ⟨rfl,hg⟩;have HGD:=zh (HGC.trans hg);clear hg)
  all_goals
   go_ret
   first
   | (refine⟨?_,HGD.out⟩
      clear zS HGC HK kU HGD;refine kP ?_
      (simp_all [zD,k9,qj];try omega))
   | (refine⟨?_,HGC.out⟩
      clear zS HGC HK kU;refine kP ?_
      (simp_all [zD,k9,qj];try omega))
 ·clear h1 h2;rw[show k9 12=0 from rfl];have hm1:bits BinOp.and IntKind.i64 0 1=0:=by kernel_rfl
  have hm2:bits BinOp.and IntKind.i64 0 2=0:=by kernel_rfl
  have hm4:bits BinOp.and IntKind.i64 0 4=0:=by kernel_rfl
  have hm8:bits BinOp.and IntKind.i64 0 8=0:=by kernel_rfl
  go_wp2_with (go_at_call 65;refine zS.mono ?_;rintro r w4 ⟨rfl,hg⟩;have HGD:=zh (HGC.trans hg);clear hg)
  all_goals
   go_ret
   first
   | (refine⟨?_,HGD.out⟩
      clear zS HGC HK kU HGD;refine kP ?_
      (simp_all [zD,k9,qj];try omega))
   | (refine⟨?_,HGC.out⟩
      clear zS HGC HK kU;refine kP ?_
      (simp_all [zD,k9,qj];try omega))
 ·clear h1 h2;rw[show k9 13=0 from rfl];have hm1:bits BinOp.and IntKind.i64 0 1=0:=by kernel_rfl
  have hm2:bits BinOp.and IntKind.i64 0 2=0:=by kernel_rfl
  have hm4:bits BinOp.and IntKind.i64 0 4=0:=by kernel_rfl
  have hm8:bits BinOp.and IntKind.i64 0 8=0:=by kernel_rfl
  go_wp2_with (go_at_call 65;refine zS.mono ?_;rintro r w4 ⟨rfl,hg⟩;have HGD:=zh (HGC.trans hg);clear hg)
  all_goals
   go_ret
   first
   | (refine⟨?_,HGD.out⟩
      clear zS HGC HK kU HGD;refine kP ?_
      (simp_all [zD,k9,qj];try omega))
   | (refine⟨?_,HGC.out⟩
      clear zS HGC HK kU;refine kP ?_
      (simp_all [zD,k9,qj];try omega))
 ·clear h1 h2;rw[show k9 14=0 from rfl];have hm1:bits BinOp.and IntKind.i64 0 1=0:=by kernel_rfl
  have hm2:bits BinOp.and IntKind.i64 0 2=0:=by kernel_rfl
  have hm4:bits BinOp.and IntKind.i64 0 4=0:=by kernel_rfl
  have hm8:bits BinOp.and IntKind.i64 0 8=0:=by kernel_rfl
  go_wp2_with (go_at_call 65;refine zS.mono ?_;rintro r w4 ⟨rfl,hg⟩;have HGD:=zh (HGC.trans hg);clear hg)
  all_goals
   go_ret
   first
   | (refine⟨?_,HGD.out⟩
      clear zS HGC HK kU HGD;refine kP ?_
      (simp_all [zD,k9,qj];try omega))
   | (refine⟨?_,HGC.out⟩
      clear zS HGC HK kU;refine kP ?_
      (simp_all [zD,k9,qj];try omega))
 ·clear h1 h2;rw[show k9 15=0 from rfl];have hm1:bits BinOp.and IntKind.i64 0 1=0:=by kernel_rfl
  have hm2:bits BinOp.and IntKind.i64 0 2=0:=by kernel_rfl
  have hm4:bits BinOp.and IntKind.i64 0 4=0:=by kernel_rfl
  have hm8:bits BinOp.and IntKind.i64 0 8=0:=by kernel_rfl
  go_wp2_with (go_at_call 65;refine zS.mono ?_;rintro r w4 ⟨rfl,hg⟩;have HGD:=zh (HGC.trans hg);clear hg)
  all_goals
   go_ret
   first
   | (refine⟨?_,HGD.out⟩
      clear zS HGC HK kU HGD;refine kP ?_
      (simp_all [zD,k9,qj];try omega))
   | (refine⟨?_,HGC.out⟩
      clear zS HGC HK kU;refine kP ?_
      (simp_all [zD,k9,qj];try omega))
 ·clear h1 h2;rw[show k9 16=0 from rfl];have hm1:bits BinOp.and IntKind.i64 0 1=0:=by kernel_rfl
  have hm2:bits BinOp.and IntKind.i64 0 2=0:=by kernel_rfl
  have hm4:bits BinOp.and IntKind.i64 0 4=0:=by kernel_rfl
  have hm8:bits BinOp.and IntKind.i64 0 8=0:=by kernel_rfl
  go_wp2_with (go_at_call 65;refine zS.mono ?_;rintro r w4 ⟨rfl,hg⟩;have HGD:=zh (HGC.trans hg);clear hg)
  all_goals
   go_ret
   first
   | (refine⟨?_,HGD.out⟩
      clear zS HGC HK kU HGD;refine kP ?_
      (simp_all [zD,k9,qj];try omega))
   | (refine⟨?_,HGC.out⟩
      clear zS HGC HK kU;refine kP ?_
      (simp_all [zD,k9,qj];try omega))
 clear h1 h2;rw[show k9 17=8 from rfl];have hm1:bits BinOp.and IntKind.i64 8 1=0:=by kernel_rfl
 have hm2:bits BinOp.and IntKind.i64 8 2=0:=by kernel_rfl
 have hm4:bits BinOp.and IntKind.i64 8 4=0:=by kernel_rfl
 have hm8:bits BinOp.and IntKind.i64 8 8=8:=by kernel_rfl
 go_wp2_with (go_at_call 65;refine zS.mono ?_;rintro r w4 ⟨rfl,hg⟩;have HGD:=zh (HGC.trans hg);clear hg)
 all_goals
  go_ret
  first
  | (refine⟨?_,HGD.out⟩
     clear zS HGC HK kU HGD;refine kP ?_
     (simp_all [zD,k9,qj];try omega))
  | (refine⟨?_,HGC.out⟩
     clear zS HGC HK kU;refine kP ?_
     (simp_all [zD,k9,qj];try omega))
end Go.Proofs.YtdjoffgkndncfaaGreat
