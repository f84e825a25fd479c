/-Texts-/
import Derived.Test.YtdjoffgkndncfaaGreatDOtherPBO
import Derived.Test.YtdjoffgkndncfaaGreatDOtherPBS
import Derived.Test.YtdjoffgkndncfaaGreatDOtherPBU
import Derived.Test.YtdjoffgkndncfaaGreatDOtherPBW
set_option linter.unusedVariables false
set_option linter.unusedSimpArgs false
set_option maxHeartbeats 64000000
set_option maxRecDepth 100000
namespace Go.Proofs.YtdjoffgkndncfaaGreat
open Go.Proofs.Tryz
open Go Go.ChangeShapes Go.WideShapes Go.ChangeAt Go.RowKit Go.Joins Go.Deep
open Ft (V3 vV okV ValsAt inlineB legalB packF codeF typedF allF)
variable {w W w':World} {x:BS} {k n u jB jD:Int} {s:ByteArray} {B:Nat} {q:zR} {κ:Nat→Nat} {keys:List ByteArray} {l:List Tr} {t:Tr}
theorem NL (k n u:Int) (s:ByteArray) (a4:Option Addr) (n4 c4:Nat) (a5:Option Addr) (n5 c5:Nat) (w:World):Calls prog 75 #[.agg #[.int .i64 k,.int .i64 n,.int .u64 u,.string s,.slice a4 n4 c4,.slice a5 n5 c5]] w λr w'=>r=.returned (.int .i64 n)∧jC w w':=by
 go_enter func75,ntmps75;go_wp2;go_ret;exact⟨rfl,(jC.refl w).alloc _⟩
theorem NM (k n u:Int) (s:ByteArray) (a4:Option Addr) (n4 c4:Nat) (a5:Option Addr) (n5 c5:Nat) (w:World):Calls prog 78 #[.agg #[.int .i64 k,.int .i64 n,.int .u64 u,.string s,.slice a4 n4 c4,.slice a5 n5 c5]] w λr w'=>r=.returned (.int .u64 u)∧jC w w':=by
 go_enter func78,ntmps78;go_wp2;go_ret;exact⟨rfl,(jC.refl w).alloc _⟩
theorem GJ (k n u:Int) (s:ByteArray) (a4:Option Addr) (n4 c4:Nat) (a5:Option Addr) (n5 c5:Nat) (w:World):Calls prog 84 #[.agg #[.int .i64 k,.int .i64 n,.int .u64 u,.string s,.slice a4 n4 c4,.slice a5 n5 c5]] w λr w'=>r=.returned (.string s)∧jC w w':=by
 go_enter func84,ntmps84;go_wp2;go_ret;exact⟨rfl,(jC.refl w).alloc _⟩
theorem A0 (k n u:Int) (s:ByteArray) (a4:Option Addr) (n4 c4:Nat) (a5:Option Addr) (n5 c5:Nat) (w:World):Calls prog 81 #[.agg #[.int .i64 k,.int .i64 n,.int .u64 u,.string s,.slice a4 n4 c4,.slice a5 n5 c5]] w λr w'=>r=.returned (.bool (decide (n=1)))∧jC w w':=by
 by_cases h:n=1
 ·subst h;go_enter func81,ntmps81;go_wp2;go_ret;exact⟨rfl,(jC.refl w).alloc _⟩
 have hb:(n == 1)=false:=by simpa using h
 have HD:Hid (decide (n=1)=false):=by show _=_;simpa using h
 clear h;go_enter func81,ntmps81;go_wp2;go_ret;exact⟨by rw[HD];rfl,(jC.refl w).alloc _⟩
theorem D4 {x:Tr} {a4 a5:Option Addr} {n4 c4 n5 c5:Nat} (h:jM w x (.agg #[.int .i64 k,.int .i64 n,.int .u64 u,.string s,.slice a4 n4 c4,.slice a5 n5 c5])):n=x.fn∧u=x.fu∧s=x.fs∧kY x.fn∧KG x.fu∧kI x.fs.size:=by
 obtain⟨k',n',u',s',keys,l⟩:=x;simp only[jM] at h;obtain⟨hb,kv,lv,vs,e,_⟩:=h;injection e with e;injection e with e;simp at e;obtain⟨rfl,rfl,rfl,rfl,_⟩:=e;exact⟨rfl,rfl,rfl,hb.2.1,hb.2.2.1,hb.2.2.2⟩
theorem rS (k n u:Int) (s:ByteArray) (a4:Option Addr) (n4 c4:Nat) (a5:Option Addr) (c5:Nat) (l:List Tr) (vs:List Value) (w:World) (hr:y9 w (.slice a5 l.length c5) vs) (hk:kZ w l vs) (hl:l.length≤4096) :
 Calls prog 74 #[.agg #[.int .i64 k,.int .i64 n,.int .u64 u,.string s,.slice a4 n4 c4,.slice a5 l.length c5],.func (.func 75) #[] #[]] w λr w'=>∃v',r=.returned v'∧w'.ownsRow w.heap.size 2 1 v' (l.map Tr.fn).length ((l.map Tr.fn).map λx=>.int .i64 x)∧jC w w':=by
 obtain⟨MR,hMR⟩:∃MR,(l.map Tr.fn)=MR:=⟨_,rfl⟩;rw[hMR];have HMR:=zh hMR;clear hMR;have HR:=zh hr;have HK:=zh hk;clear hr hk;have jK:=qc w (.cells #[.int .i64 k,.int .i64 n,.int .u64 u,.string s,.slice a4 n4 c4,.slice a5 l.length c5] 26);have HG0:=zh ((jC.refl w).alloc (.cells #[.int .i64 k,.int .i64 n,.int .u64 u,.string s,.slice a4 n4 c4,.slice a5 l.length c5] 26));have HS0:=zh (zm w (.cells #[.int .i64 k,.int .i64 n,.int .u64 u,.string s,.slice a4 n4 c4,.slice a5 l.length c5] 26));have g5:=jA jK 5 _ rfl;clear jK;go_enter func74,ntmps74;go_wp2_with fail;generalize w.alloc _=w1 at *
 go_loopw [4,10] (λv i wr=>∃q:Nat,q≤l.length∧i=.int .i64 q∧Hid (wr.ownsRow w1.heap.size 2 1 v ((l.take q).map Tr.fn).length (((l.take q).map Tr.fn).map λx=>.int .i64 x)∧jC w1 wr)) (λ_ i _=>l.length - (intOf i).toNat)
 case atStart=>exact⟨0,Nat.zero_le _,rfl,by
  show _∧_
  exact⟨World.ownsRow_nil _ _ _ _,jC.refl _⟩⟩
 case round=>
  obtain⟨q,hq,rfl,HW⟩:=hrel;by_cases hlt:q < l.length
  ·obtain⟨x,hx⟩:∃x,l[q]? = some x:=⟨_,za hlt⟩;obtain⟨xv,hxv,hnx⟩:=HK.get hx;have HSN:Hid ((l.take (q+1)).map Tr.fn=((l.take q).map Tr.fn)++[(Tr.fn) x]):=by show _=_;rw[qo,hx];simp
   obtain⟨b,off,rfl,hc6⟩:∃b off,a5=some ⟨b,off,none⟩∧yO wr b (off+q*6) xv:=by
    obtain⟨a,c,e,_,_,_,h⟩:=HR.out;injection e with e1 e2 e3;subst e1;obtain⟨b,off,e,h6⟩:=h q xv hxv;exact⟨b,off,e,(h6.grew HG0.out).grew HW.2⟩
   obtain⟨xk,xn,xu,xs,xa4,xn4,xc4,xa5,xn5,xc5,rfl⟩:=hnx.node6;obtain⟨f1,f2,f3,f4,f5,f6⟩:=D4 hnx;obtain⟨e0,e1,e2,e3,e4,e5⟩:=hc6.get;have HO:=zh HW.1;have HG:=zh HW.2;have hlm:((l.take q).map Tr.fn).length=q:=by rw[qb,qr];omega
   generalize ((l.take q).map Tr.fn)=M at *;have HLM:=zh hlm;obtain⟨va,vc,hvf,hz1,hz2,hz3⟩:=jR HO.out;rw[hlm] at hvf;subst hvf;have HX:Hid ((Tr.fn) x=xn):=by show _=_;exact f1.symm
   have HF6:=zh f6;clear hc6 hx hxv hnx hz1 hz2 hz3 hlm HW f1 f2 f3 f4 f5 f6;have hqi:(q:Int) < l.length:=by omega
   have hqb:q < 4096:=by omega
   have HQB:=zh hqb;clear hqb;go_wp2_with fail;have HGR:=zh ((jC.refl wr).alloc (.cells #[.int .i64 xk,.int .i64 xn,.int .u64 xu,.string xs,.slice xa4 xn4 xc4,.slice xa5 xn5 xc5] 26));generalize wr.alloc _=ws at *;refine (NL xk xn xu xs xa4 xn4 xc4 xa5 xn5 xc5 ws).mono ?_;obtain⟨X,hX⟩:∃X,xn=X:=⟨_,rfl⟩;skip;rintro r w4 ⟨rfl,hg4⟩;have HG4:=zh (HGR.trans hg4);have HO4:=zh (qF HO.out HG4.out);clear hg4 e0 e1 e2 e3 e4 e5;subst hX;go_wp2_with (at_builtin;refine aX (λx=>.int .i64 x) (λ_=>rfl) 115 2 (.int .i64 0) 8 underlying115 CX rfl zd rfl _ _ rfl w1.heap.size (.slice va q vc) M rfl (qF HO4.out ((jC.refl _).alloc _)) _ [xn] rfl (gH (λx=>.int .i64 x) _ _ xn) (λn c e=>by cases e) zp10 (zf (HG.trans HG4.out).size zp2) ?_;intro v' w5 j5 hgr hnx;have HG3:Hid (jC w1 w5):=bV (qF HO4.out ((jC.refl _).alloc _)) ((HG.trans HG4.out).alloc _) hgr;have HO3:=zh j5;obtain⟨va2,vc2,hvf2,hz1,hz2,hz3⟩:=jR j5;rw[zb,HLM] at hvf2;subst hvf2;clear j5 hgr hnx hz1 hz2 hz3);go_roundw
   case rel=>
    refine⟨q+1,by omega,by go_num,?_⟩;show _∧_;rw[HSN,HX];exact⟨HO3.out,HG3.out⟩
   case measure=>simp[intOf];omega
  exact EB
theorem rT (k n u:Int) (s:ByteArray) (a4:Option Addr) (n4 c4:Nat) (a5:Option Addr) (c5:Nat) (l:List Tr) (vs:List Value) (w:World) (hr:y9 w (.slice a5 l.length c5) vs) (hk:kZ w l vs) (hl:l.length≤4096) :
 Calls prog 77 #[.agg #[.int .i64 k,.int .i64 n,.int .u64 u,.string s,.slice a4 n4 c4,.slice a5 l.length c5],.func (.func 78) #[] #[]] w λr w'=>∃v',r=.returned v'∧w'.ownsRow w.heap.size 22 1 v' (l.map Tr.fu).length ((l.map Tr.fu).map λx=>.int .u64 x)∧jC w w':=by
 obtain⟨MR,hMR⟩:∃MR,(l.map Tr.fu)=MR:=⟨_,rfl⟩;rw[hMR];have HMR:=zh hMR;clear hMR;have HR:=zh hr;have HK:=zh hk;clear hr hk;have jK:=qc w (.cells #[.int .i64 k,.int .i64 n,.int .u64 u,.string s,.slice a4 n4 c4,.slice a5 l.length c5] 26);have HG0:=zh ((jC.refl w).alloc (.cells #[.int .i64 k,.int .i64 n,.int .u64 u,.string s,.slice a4 n4 c4,.slice a5 l.length c5] 26));have HS0:=zh (zm w (.cells #[.int .i64 k,.int .i64 n,.int .u64 u,.string s,.slice a4 n4 c4,.slice a5 l.length c5] 26));have g5:=jA jK 5 _ rfl;clear jK;go_enter func77,ntmps77;go_wp2_with fail;generalize w.alloc _=w1 at *
 go_loopw [4,10] (λv i wr=>∃q:Nat,q≤l.length∧i=.int .i64 q∧Hid (wr.ownsRow w1.heap.size 22 1 v ((l.take q).map Tr.fu).length (((l.take q).map Tr.fu).map λx=>.int .u64 x)∧jC w1 wr)) (λ_ i _=>l.length - (intOf i).toNat)
 case atStart=>exact⟨0,Nat.zero_le _,rfl,by
  show _∧_
  exact⟨World.ownsRow_nil _ _ _ _,jC.refl _⟩⟩
 case round=>
  obtain⟨q,hq,rfl,HW⟩:=hrel;by_cases hlt:q < l.length
  ·obtain⟨x,hx⟩:∃x,l[q]? = some x:=⟨_,za hlt⟩;obtain⟨xv,hxv,hnx⟩:=HK.get hx;have HSN:Hid ((l.take (q+1)).map Tr.fu=((l.take q).map Tr.fu)++[(Tr.fu) x]):=by show _=_;rw[qo,hx];simp
   obtain⟨b,off,rfl,hc6⟩:∃b off,a5=some ⟨b,off,none⟩∧yO wr b (off+q*6) xv:=by
    obtain⟨a,c,e,_,_,_,h⟩:=HR.out;injection e with e1 e2 e3;subst e1;obtain⟨b,off,e,h6⟩:=h q xv hxv;exact⟨b,off,e,(h6.grew HG0.out).grew HW.2⟩
   obtain⟨xk,xn,xu,xs,xa4,xn4,xc4,xa5,xn5,xc5,rfl⟩:=hnx.node6;obtain⟨f1,f2,f3,f4,f5,f6⟩:=D4 hnx;obtain⟨e0,e1,e2,e3,e4,e5⟩:=hc6.get;have HO:=zh HW.1;have HG:=zh HW.2;have hlm:((l.take q).map Tr.fu).length=q:=by rw[qb,qr];omega
   generalize ((l.take q).map Tr.fu)=M at *;have HLM:=zh hlm;obtain⟨va,vc,hvf,hz1,hz2,hz3⟩:=jR HO.out;rw[hlm] at hvf;subst hvf;have HX:Hid ((Tr.fu) x=xu):=by show _=_;exact f2.symm
   have HF6:=zh f6;clear hc6 hx hxv hnx hz1 hz2 hz3 hlm HW f1 f2 f3 f4 f5 f6;have hqi:(q:Int) < l.length:=by omega
   have hqb:q < 4096:=by omega
   have HQB:=zh hqb;clear hqb;go_wp2_with fail;have HGR:=zh ((jC.refl wr).alloc (.cells #[.int .i64 xk,.int .i64 xn,.int .u64 xu,.string xs,.slice xa4 xn4 xc4,.slice xa5 xn5 xc5] 26));generalize wr.alloc _=ws at *;refine (NM xk xn xu xs xa4 xn4 xc4 xa5 xn5 xc5 ws).mono ?_;obtain⟨X,hX⟩:∃X,xu=X:=⟨_,rfl⟩;skip;rintro r w4 ⟨rfl,hg4⟩;have HG4:=zh (HGR.trans hg4);have HO4:=zh (qF HO.out HG4.out);clear hg4 e0 e1 e2 e3 e4 e5;subst hX;go_wp2_with (at_builtin;refine aX (λx=>.int .u64 x) (λ_=>rfl) 119 22 (.int .u64 0) 8 underlying119 AV rfl zd rfl _ _ rfl w1.heap.size (.slice va q vc) M rfl (qF HO4.out ((jC.refl _).alloc _)) _ [xu] rfl (gH (λx=>.int .u64 x) _ _ xu) (λn c e=>by cases e) zp10 (zf (HG.trans HG4.out).size zp2) ?_;intro v' w5 j5 hgr hnx;have HG3:Hid (jC w1 w5):=bV (qF HO4.out ((jC.refl _).alloc _)) ((HG.trans HG4.out).alloc _) hgr;have HO3:=zh j5;obtain⟨va2,vc2,hvf2,hz1,hz2,hz3⟩:=jR j5;rw[zb,HLM] at hvf2;subst hvf2;clear j5 hgr hnx hz1 hz2 hz3);go_roundw
   case rel=>
    refine⟨q+1,by omega,by go_num,?_⟩;show _∧_;rw[HSN,HX];exact⟨HO3.out,HG3.out⟩
   case measure=>simp[intOf];omega
  exact EB
theorem GK (k n u:Int) (s:ByteArray) (a4:Option Addr) (n4 c4:Nat) (a5:Option Addr) (c5:Nat) (l:List Tr) (vs:List Value) (w:World) (hr:y9 w (.slice a5 l.length c5) vs) (hk:kZ w l vs) (hl:l.length≤4096) :
 Calls prog 80 #[.agg #[.int .i64 k,.int .i64 n,.int .u64 u,.string s,.slice a4 n4 c4,.slice a5 l.length c5],.func (.func 81) #[] #[]] w λr w'=>∃v',r=.returned v'∧w'.ownsRow w.heap.size 4 1 v' (l.map (λt=>decide (t.fn=1))).length ((l.map (λt=>decide (t.fn=1))).map λx=>.bool x)∧jC w w':=by
 obtain⟨MR,hMR⟩:∃MR,(l.map (λt=>decide (t.fn=1)))=MR:=⟨_,rfl⟩;rw[hMR];have HMR:=zh hMR;clear hMR;have HR:=zh hr;have HK:=zh hk;clear hr hk;have jK:=qc w (.cells #[.int .i64 k,.int .i64 n,.int .u64 u,.string s,.slice a4 n4 c4,.slice a5 l.length c5] 26);have HG0:=zh ((jC.refl w).alloc (.cells #[.int .i64 k,.int .i64 n,.int .u64 u,.string s,.slice a4 n4 c4,.slice a5 l.length c5] 26));have HS0:=zh (zm w (.cells #[.int .i64 k,.int .i64 n,.int .u64 u,.string s,.slice a4 n4 c4,.slice a5 l.length c5] 26));have g5:=jA jK 5 _ rfl;clear jK;go_enter func80,ntmps80;go_wp2_with fail;generalize w.alloc _=w1 at *
 go_loopw [4,10] (λv i wr=>∃q:Nat,q≤l.length∧i=.int .i64 q∧Hid (wr.ownsRow w1.heap.size 4 1 v ((l.take q).map (λt=>decide (t.fn=1))).length (((l.take q).map (λt=>decide (t.fn=1))).map λx=>.bool x)∧jC w1 wr)) (λ_ i _=>l.length - (intOf i).toNat)
 case atStart=>exact⟨0,Nat.zero_le _,rfl,by
  show _∧_
  exact⟨World.ownsRow_nil _ _ _ _,jC.refl _⟩⟩
 case round=>
  obtain⟨q,hq,rfl,HW⟩:=hrel;by_cases hlt:q < l.length
  ·obtain⟨x,hx⟩:∃x,l[q]? = some x:=⟨_,za hlt⟩;obtain⟨xv,hxv,hnx⟩:=HK.get hx;have HSN:Hid ((l.take (q+1)).map (λt=>decide (t.fn=1))=((l.take q).map (λt=>decide (t.fn=1)))++[((λt=>decide (t.fn=1))) x]):=by show _=_;rw[qo,hx];simp
   obtain⟨b,off,rfl,hc6⟩:∃b off,a5=some ⟨b,off,none⟩∧yO wr b (off+q*6) xv:=by
    obtain⟨a,c,e,_,_,_,h⟩:=HR.out;injection e with e1 e2 e3;subst e1;obtain⟨b,off,e,h6⟩:=h q xv hxv;exact⟨b,off,e,(h6.grew HG0.out).grew HW.2⟩
   obtain⟨xk,xn,xu,xs,xa4,xn4,xc4,xa5,xn5,xc5,rfl⟩:=hnx.node6;obtain⟨f1,f2,f3,f4,f5,f6⟩:=D4 hnx;obtain⟨e0,e1,e2,e3,e4,e5⟩:=hc6.get;have HO:=zh HW.1;have HG:=zh HW.2;have hlm:((l.take q).map (λt=>decide (t.fn=1))).length=q:=by rw[qb,qr];omega
   generalize ((l.take q).map (λt=>decide (t.fn=1)))=M at *;have HLM:=zh hlm;obtain⟨va,vc,hvf,hz1,hz2,hz3⟩:=jR HO.out;rw[hlm] at hvf;subst hvf;have HX:Hid (((λt=>decide (t.fn=1))) x=decide (xn=1)):=by show _=_;rw[f1]
   have HF6:=zh f6;clear hc6 hx hxv hnx hz1 hz2 hz3 hlm HW f1 f2 f3 f4 f5 f6;have hqi:(q:Int) < l.length:=by omega
   have hqb:q < 4096:=by omega
   have HQB:=zh hqb;clear hqb;go_wp2_with fail;have HGR:=zh ((jC.refl wr).alloc (.cells #[.int .i64 xk,.int .i64 xn,.int .u64 xu,.string xs,.slice xa4 xn4 xc4,.slice xa5 xn5 xc5] 26));generalize wr.alloc _=ws at *;refine (A0 xk xn xu xs xa4 xn4 xc4 xa5 xn5 xc5 ws).mono ?_;obtain⟨X,hX⟩:∃X,decide (xn=1)=X:=⟨_,rfl⟩;rw[hX] at HX⊢;rintro r w4 ⟨rfl,hg4⟩;have HG4:=zh (HGR.trans hg4);have HO4:=zh (qF HO.out HG4.out);clear hg4 e0 e1 e2 e3 e4 e5;clear hX;go_wp2_with (at_builtin;refine aX (λx=>.bool x) (λ_=>rfl) 123 4 (.bool false) 1 underlying123 GF rfl zd rfl _ _ rfl w1.heap.size (.slice va q vc) M rfl (qF HO4.out ((jC.refl _).alloc _)) _ [X] rfl (gH (λx=>.bool x) _ _ X) (λn c e=>by cases e) zp10 (zf (HG.trans HG4.out).size zp2) ?_;intro v' w5 j5 hgr hnx;have HG3:Hid (jC w1 w5):=bV (qF HO4.out ((jC.refl _).alloc _)) ((HG.trans HG4.out).alloc _) hgr;have HO3:=zh j5;obtain⟨va2,vc2,hvf2,hz1,hz2,hz3⟩:=jR j5;rw[zb,HLM] at hvf2;subst hvf2;clear j5 hgr hnx hz1 hz2 hz3);go_roundw
   case rel=>
    refine⟨q+1,by omega,by go_num,?_⟩;show _∧_;rw[HSN,HX];exact⟨HO3.out,HG3.out⟩
   case measure=>simp[intOf];omega
  exact EB
theorem GL (k n u:Int) (s:ByteArray) (a4:Option Addr) (n4 c4:Nat) (a5:Option Addr) (c5:Nat) (l:List Tr) (vs:List Value) (w:World) (hr:y9 w (.slice a5 l.length c5) vs) (hk:kZ w l vs) (hl:l.length≤4096) :
 Calls prog 83 #[.agg #[.int .i64 k,.int .i64 n,.int .u64 u,.string s,.slice a4 n4 c4,.slice a5 l.length c5],.func (.func 84) #[] #[]] w λr w'=>∃v',r=.returned v'∧w'.ownsRow w.heap.size 9 1 v' (l.map Tr.fs).length ((l.map Tr.fs).map λx=>.string x)∧jC w w':=by
 obtain⟨MR,hMR⟩:∃MR,(l.map Tr.fs)=MR:=⟨_,rfl⟩;rw[hMR];have HMR:=zh hMR;clear hMR;have HR:=zh hr;have HK:=zh hk;clear hr hk;have jK:=qc w (.cells #[.int .i64 k,.int .i64 n,.int .u64 u,.string s,.slice a4 n4 c4,.slice a5 l.length c5] 26);have HG0:=zh ((jC.refl w).alloc (.cells #[.int .i64 k,.int .i64 n,.int .u64 u,.string s,.slice a4 n4 c4,.slice a5 l.length c5] 26));have HS0:=zh (zm w (.cells #[.int .i64 k,.int .i64 n,.int .u64 u,.string s,.slice a4 n4 c4,.slice a5 l.length c5] 26));have g5:=jA jK 5 _ rfl;clear jK;go_enter func83,ntmps83;go_wp2_with fail;generalize w.alloc _=w1 at *
 go_loopw [4,10] (λv i wr=>∃q:Nat,q≤l.length∧i=.int .i64 q∧Hid (wr.ownsRow w1.heap.size 9 1 v ((l.take q).map Tr.fs).length (((l.take q).map Tr.fs).map λx=>.string x)∧jC w1 wr)) (λ_ i _=>l.length - (intOf i).toNat)
 case atStart=>exact⟨0,Nat.zero_le _,rfl,by
  show _∧_
  exact⟨World.ownsRow_nil _ _ _ _,jC.refl _⟩⟩
 case round=>
  obtain⟨q,hq,rfl,HW⟩:=hrel;by_cases hlt:q < l.length
  ·obtain⟨x,hx⟩:∃x,l[q]? = some x:=⟨_,za hlt⟩;obtain⟨xv,hxv,hnx⟩:=HK.get hx;have HSN:Hid ((l.take (q+1)).map Tr.fs=((l.take q).map Tr.fs)++[(Tr.fs) x]):=by show _=_;rw[qo,hx];simp
   obtain⟨b,off,rfl,hc6⟩:∃b off,a5=some ⟨b,off,none⟩∧yO wr b (off+q*6) xv:=by
    obtain⟨a,c,e,_,_,_,h⟩:=HR.out;injection e with e1 e2 e3;subst e1;obtain⟨b,off,e,h6⟩:=h q xv hxv;exact⟨b,off,e,(h6.grew HG0.out).grew HW.2⟩
   obtain⟨xk,xn,xu,xs,xa4,xn4,xc4,xa5,xn5,xc5,rfl⟩:=hnx.node6;obtain⟨f1,f2,f3,f4,f5,f6⟩:=D4 hnx;obtain⟨e0,e1,e2,e3,e4,e5⟩:=hc6.get;have HO:=zh HW.1;have HG:=zh HW.2;have hlm:((l.take q).map Tr.fs).length=q:=by rw[qb,qr];omega
   generalize ((l.take q).map Tr.fs)=M at *;have HLM:=zh hlm;obtain⟨va,vc,hvf,hz1,hz2,hz3⟩:=jR HO.out;rw[hlm] at hvf;subst hvf;have HX:Hid ((Tr.fs) x=xs):=by show _=_;exact f3.symm
   have HF6:=zh f6;clear hc6 hx hxv hnx hz1 hz2 hz3 hlm HW f1 f2 f3 f4 f5 f6;have hqi:(q:Int) < l.length:=by omega
   have hqb:q < 4096:=by omega
   have HQB:=zh hqb;clear hqb;go_wp2_with fail;have HGR:=zh ((jC.refl wr).alloc (.cells #[.int .i64 xk,.int .i64 xn,.int .u64 xu,.string xs,.slice xa4 xn4 xc4,.slice xa5 xn5 xc5] 26));generalize wr.alloc _=ws at *;refine (GJ xk xn xu xs xa4 xn4 xc4 xa5 xn5 xc5 ws).mono ?_;obtain⟨X,hX⟩:∃X,xs=X:=⟨_,rfl⟩;skip;rintro r w4 ⟨rfl,hg4⟩;have HG4:=zh (HGR.trans hg4);have HO4:=zh (qF HO.out HG4.out);clear hg4 e0 e1 e2 e3 e4 e5;subst hX;have HXZ:Hid (kI xs.size):=by show kI _;rw[← HX.out];exact HF6.out
   have HO5:Hid (∀o,zG (w4.alloc o) w1.heap.size (.slice va M.length vc) M):=λo=>by rw[HLM];have h:=qF HO4.out ((jC.refl w4).alloc o);rw[HLM] at h;show World.ownsRow _ _ _ _ _ M.length _;rw[HLM];exact h
   go_wp2_with (at_builtin;refine J6 rfl _ _ rfl w1.heap.size (.slice va q vc) M rfl (by have h:=HO5.out;rw[HLM] at h;exact h _) _ [xs] rfl (lN _ _ HXZ.out) zp10 (zf (HG.trans HG4.out).size zp2) ?_;intro v' w5 j5 hgr hnx;have HG3:Hid (jC w1 w5):=bV (qF HO4.out ((jC.refl _).alloc _)) ((HG.trans HG4.out).alloc _) hgr;have HO3:=zh j5;obtain⟨va2,vc2,hvf2,hz1,hz2,hz3⟩:=jR j5;rw[zb,HLM] at hvf2;subst hvf2;clear j5 hgr hnx hz1 hz2 hz3);go_roundw
   case rel=>
    refine⟨q+1,by omega,by go_num,?_⟩;show _∧_;rw[HSN,HX];exact⟨HO3.out,HG3.out⟩
   case measure=>simp[intOf];omega
  exact EB
theorem NN (k n u:Int) (s:ByteArray) (a4:Option Addr) (n4 c4:Nat) (a5:Option Addr) (n5 c5:Nat) (hn:kY n) (hu:KG u) (hs:s.size≤1048576) (hg:x.Good) (h:Bd B q jB jD κ x w):Calls prog 93 #[jI q.p,.agg #[.int .i64 k,.int .i64 n,.int .u64 u,.string s,.slice a4 n4 c4,.slice a5 n5 c5]] w λr w'=>r=.returned (.tuple #[])∧kL B q jB jD κ (Z9 jB jD k n u s x) w w':=by
 have HB:=zh h;have HG:=zh hg;have HN:Hid (-9223372036854775808≤n∧n≤9223372036854775807):=hn;have HU:Hid (0≤u∧u≤18446744073709551615):=hu;have HS:=zh hs;have jK:=qc w (.cells #[.int .i64 k,.int .i64 n,.int .u64 u,.string s,.slice a4 n4 c4,.slice a5 n5 c5] 26);have HGA:=zh ((jC.refl w).alloc (.cells #[.int .i64 k,.int .i64 n,.int .u64 u,.string s,.slice a4 n4 c4,.slice a5 n5 c5] 26));obtain⟨g0,g1,g2,g3,g4,g5⟩:=sqr6 jK;clear h hg hn hu hs jK;have hk10:k=1∨k=2∨k=3∨k=4∨k=8∨k=9∨k=5∨k=6∨k=7∨(k≠1∧k≠2∧k≠3∧k≠4∧k≠8∧k≠9∧k≠5∧k≠6∧k≠7):=by omega
 obtain rfl|rfl|rfl|rfl|rfl|rfl|rfl|rfl|rfl|⟨m1,m2,m3,m4,m8,m9,m5,m6,m7⟩:=hk10
 ·have HD:Hid (Z9 jB jD 1 n u s x=x.inline (0,1,0)):=rfl;go_enter func93,ntmps93;go_wp2_with fail;refine (FN (HB.grew HGA.out)).mono ?_;rintro r w2 ⟨rfl,ht⟩;have HT2:=zh (ht.after HGA.out);clear ht;go_wp2;go_end0;exact⟨rfl,by rw[HD];exact HT2.out⟩
 ·have HD:Hid (Z9 jB jD 2 n u s x=x.inline (y6 (decide (n=1)))):=rfl;go_enter func93,ntmps93;go_wp2_with fail;refine (A0 2 n u s a4 n4 c4 a5 n5 c5 _).mono ?_;rintro r w1 ⟨rfl,hg1⟩;have HG1:=zh (HGA.trans hg1);obtain⟨ob,hob⟩:∃b,decide (n=1)=b:=⟨_,rfl⟩;rw[hob] at HD⊢;clear hg1 hob;go_wp2_with fail;refine (FO ob (HB.grew HG1.out)).mono ?_;rintro r w2 ⟨rfl,ht⟩;have HT2:=zh (ht.after HG1.out);clear ht;go_wp2;go_end0;exact⟨rfl,by rw[HD];exact HT2.out⟩
 ·have HD:Hid (Z9 jB jD 3 n u s x=x.inline (vE n)):=rfl;go_enter func93,ntmps93;go_wp2_with fail;refine (ME n HN.1 HN.2 (HB.grew HGA.out)).mono ?_;rintro r w2 ⟨rfl,ht⟩;have HT2:=zh (ht.after HGA.out);clear ht;go_wp2;go_end0;exact⟨rfl,by rw[HD];exact HT2.out⟩
 ·have HD:Hid (Z9 jB jD 4 n u s x=x.inline (vF u)):=rfl;go_enter func93,ntmps93;go_wp2_with fail;refine (FP u HU.1 HU.2 (HB.grew HGA.out)).mono ?_;rintro r w2 ⟨rfl,ht⟩;have HT2:=zh (ht.after HGA.out);clear ht;go_wp2;go_end0;exact⟨rfl,by rw[HD];exact HT2.out⟩
 ·have HD:Hid (Z9 jB jD 8 n u s x=x.apart jB 6 (vE n)):=rfl;go_enter func93,ntmps93;go_wp2_with fail;refine (xO n HN.1 HN.2 (HB.grew HGA.out)).mono ?_;rintro r w2 ⟨rfl,ht⟩;have HT2:=zh (ht.after HGA.out);clear ht;go_wp2;go_end0;exact⟨rfl,by rw[HD];exact HT2.out⟩
 ·have HD:Hid (Z9 jB jD 9 n u s x=x.apart jB 7 (vF u)):=rfl;go_enter func93,ntmps93;go_wp2_with fail;refine (tI u HU.1 HU.2 (HB.grew HGA.out)).mono ?_;rintro r w2 ⟨rfl,ht⟩;have HT2:=zh (ht.after HGA.out);clear ht;go_wp2;go_end0;exact⟨rfl,by rw[HD];exact HT2.out⟩
 ·have HD:Hid (Z9 jB jD 5 n u s x=x.key jB (onF jD 1) s):=rfl;go_enter func93,ntmps93;go_wp2_with fail;refine (xR s HS.out HG.out (HB.grew HGA.out)).mono ?_;rintro r w2 ⟨rfl,ht⟩;have HT2:=zh (ht.after HGA.out);clear ht;go_wp2;go_end0;exact⟨rfl,by rw[HD];exact HT2.out⟩
 ·have HD:Hid (Z9 jB jD 6 n u s x=x.str jB (onF jD 2) s):=rfl;go_enter func93,ntmps93;go_wp2_with fail;refine (MH s HS.out HG.out (HB.grew HGA.out)).mono ?_;rintro r w2 ⟨rfl,ht⟩;have HT2:=zh (ht.after HGA.out);clear ht;go_wp2;go_end0;exact⟨rfl,by rw[HD];exact HT2.out⟩
 ·have HD:Hid (Z9 jB jD 7 n u s x=x.blob jB s):=rfl;go_enter func93,ntmps93;go_wp2_with fail;refine (FR s HS.out HG.out (HB.grew HGA.out)).mono ?_;rintro r w2 ⟨rfl,ht⟩;have HT2:=zh (ht.after HGA.out);clear ht;go_wp2;go_end0;exact⟨rfl,by rw[HD];exact HT2.out⟩
 have HD:Hid (Z9 jB jD k n u s x=x):=by show _=_;unfold Z9;rw[ze m1,ze m2,ze m3,ze m4,ze m8,ze m9,ze m5,ze m6,ze m7]
 have q1:(k == 1)=false:=by simpa using m1
 have q2:(k == 2)=false:=by simpa using m2
 have q3:(k == 3)=false:=by simpa using m3
 have q4:(k == 4)=false:=by simpa using m4
 have q5:(k == 5)=false:=by simpa using m5
 have q6:(k == 6)=false:=by simpa using m6
 have q7:(k == 7)=false:=by simpa using m7
 have q8:(k == 8)=false:=by simpa using m8
 have q9:(k == 9)=false:=by simpa using m9
 clear m1 m2 m3 m4 m8 m9 m5 m6 m7;go_enter func93,ntmps93;go_wp2;go_end0;exact⟨rfl,by rw[HD];exact (HB.grew HGA.out).refl.after HGA.out⟩
section
variable {B:Nat} {q:zR} {jB jD:Int} {κ κ0:Nat→Nat} {x y:BS} {W w w0:World} {Kp:List (Nat × Obj)}
theorem Env.old (h0:Bd B q jB jD κ0 y w0) (hW:jC W w0) (hB:W.heap.size≤B) (h:Env B q jB jD w0 κ0 Kp x w):jC W w:=by
 obtain⟨κ,_,h2,_⟩:=h;exact Moved.fresh hW h2.1 (λg hg=>zf hB (h0.lt g hg).1)
theorem NO (h:Bd B q jB jD κ x w):Calls prog 87 #[jI q.p] w λr w'=>r=.returned (.int .i64 x.stk.length)∧w'=w:=by
 have HB:=zh h;clear h;go_enter func87,ntmps87;go_wp2_with fail;refine (xL HB.out).mono ?_;rintro r w' ⟨rfl,rfl⟩;go_wp2;go_ret;exact⟨rfl,rfl⟩
theorem NP (h:Bd B q jB jD κ x w):Calls prog 89 #[jI q.p] w λr w'=>r=.returned (.int .i64 x.stk.length)∧w'=w:=by
 have HB:=zh h;clear h;go_enter func89,ntmps89;go_wp2_with fail;refine (xL HB.out).mono ?_;rintro r w' ⟨rfl,rfl⟩;go_wp2;go_ret;exact⟨rfl,rfl⟩
end
theorem NQ:kT jB jD (.mk 10 n u s keys l) x=(qE jB jD l x).endVec jB x.stk.length:=by simp only[kT];rfl
theorem NR:kT jB jD (.mk 17 n u s keys l) x=(qZ jB jD l keys x).endMap jB (onF jD 4) x.stk.length:=by simp only[kT];rfl
theorem NT:kT jB jD (.mk 11 n u s keys l) x=x.vector jB 1 0 ((l.map Tr.fn).map vE):=by simp only[kT,xe];rfl
theorem NU:kT jB jD (.mk 12 n u s keys l) x=x.vector jB 2 0 ((l.map Tr.fu).map vF):=by simp only[kT,xe];rfl
theorem NV:kT jB jD (.mk 14 n u s keys l) x=x.vector jB 26 0 ((l.map λt=>decide (t.fn=1)).map y6):=by simp only[kT,xe];rfl
theorem NW:kT jB jD (.mk 13 n u s keys l) x=x.keyVec jB (onF jD 1) (l.map Tr.fs):=by simp only[kT];rfl
theorem NX:kT jB jD (.mk 15 n u s keys l) x=x.fixed jB 1 ((l.map Tr.fn).map vE):=by simp only[kT,xe];rfl
theorem NY:kT jB jD (.mk 16 n u s keys l) x=x.fixed jB 2 ((l.map Tr.fu).map vF):=by simp only[kT,xe];rfl
theorem C7 (h:k≠11∧k≠12∧k≠14∧k≠13∧k≠15∧k≠16∧k≠10∧k≠17):kT jB jD (.mk k n u s keys l) x=Z9 jB jD k n u s x:=by
 obtain⟨h1,h2,h3,h4,h5,h6,h7,h8⟩:=h;simp only[kT,ze h1,ze h2,ze h3,ze h4,ze h5,ze h6,ze h7,ze h8]
theorem GM (n1 n2:Nat) (k n u:Int) (s:ByteArray) (kb ko:Nat) (keys:List ByteArray) (c4:Nat) (lb lo:Nat) (l:List Tr) (c5:Nat) (i:Nat) (key:ByteArray) (t:Tr) (xk xn xu:Int) (xs:ByteArray) (xa4:Option Addr) (xn4 xc4:Nat) (xa5:Option Addr) (xn5 xc5:Nat) (hWB:W.heap.size≤B) (hW:jC W w) (hik:i < keys.length) (hil:i < l.length) (hkl:keys.length≤4096) (hll:l.length≤4096) (hck:W.cell? ⟨kb,ko+i,none⟩=some (.string key)) (hkz:key.size≤1048576) (hc6:yO W lb (lo+i*6) (.agg #[.int .i64 xk,.int .i64 xn,.int .u64 xu,.string xs,.slice xa4 xn4 xc4,.slice xa5 xn5 xc5])) (ih:∀(κ1:Nat→Nat) (y:BS) (w1:World),jC W w1→y.Good→Bd B q jB jD κ1 y w1→Calls prog 46 #[jI q.p,.agg #[.int .i64 xk,.int .i64 xn,.int .u64 xu,.string xs,.slice xa4 xn4 xc4,.slice xa5 xn5 xc5]] w1 λr w'=>r=.returned (.tuple #[])∧kL B q jB jD κ1 (kT jB jD t y) w1 w') (hg:x.Good) (hb:Bd B q jB jD κ x w) (he:Env B q jB jD w κ [(n2,Obj.cells #[.int .i64 k,.int .i64 n,.int .u64 u,.string s,.slice (some ⟨kb,ko,none⟩) keys.length c4,.slice (some ⟨lb,lo,none⟩) l.length c5] 26 (0,0)),(n1,Obj.cells #[jI q.p] 70 (0,0))] x w):Calls prog 90 #[.int .i64 i,.pointer (some ⟨n1,0,none⟩),.pointer (some ⟨n2,0,none⟩)] w λr w'=>r=.returned (.tuple #[])∧kL B q jB jD κ (kT jB jD t (x.key jB (onF jD 1) key)) w w':=by
 have HE:=zh he;have HB:=zh hb;have HG:=zh hg;have HGK:Hid ((x.key jB (onF jD 1) key).Good):=hg.key;have HKZ:=zh hkz;have HWB:=zh hWB;have HGW:=zh hW;have HIH:=zh ih;have HC6:=zh hc6;have HM2:Hid ((n2,Obj.cells #[.int .i64 k,.int .i64 n,.int .u64 u,.string s,.slice (some ⟨kb,ko,none⟩) keys.length c4,.slice (some ⟨lb,lo,none⟩) l.length c5] 26 (0,0))∈([(n2,Obj.cells #[.int .i64 k,.int .i64 n,.int .u64 u,.string s,.slice (some ⟨kb,ko,none⟩) keys.length c4,.slice (some ⟨lb,lo,none⟩) l.length c5] 26 (0,0)),(n1,Obj.cells #[jI q.p] 70 (0,0))]:List (Nat × Obj))):=zx;have HM1:Hid ((n1,Obj.cells #[jI q.p] 70 (0,0))∈([(n2,Obj.cells #[.int .i64 k,.int .i64 n,.int .u64 u,.string s,.slice (some ⟨kb,ko,none⟩) keys.length c4,.slice (some ⟨lb,lo,none⟩) l.length c5] 26 (0,0)),(n1,Obj.cells #[jI q.p] 70 (0,0))]:List (Nat × Obj))):=zj _ zx;have cb:=Env.cell he HM1.out 0 _ rfl;have f4:=Env.cell he HM2.out 4 _ rfl;have ck:=hW.cell hck;have hiki:(i:Int) < keys.length:=by omega
 have hili:(i:Int) < l.length:=by omega
 clear he hb hg hkz hWB hW ih hc6 hck hik hil;go_enter func90,ntmps90;go_wp2_with fail;refine zM jC 6 [[],[],[1],[],[1,2,3],[1,2,3,4],[0,1,2,3,4,5]] [[(5,1),(6,2),(7,3),(8,4),(9,5)],[(4,0),(7,3)],[(4,0),(5,1),(7,3)],[(4,0),(5,1),(6,2)],[(4,0),(5,1),(6,2),(7,3)],[(4,0),(5,1),(6,2),(7,3),(8,4)],[(4,0),(5,1),(6,2),(7,3),(8,4),(9,5)]] [(4,0),(5,1),(6,2),(7,3),(8,4),(9,5)]
  [Is (jI q.p),Is (.pointer (some ⟨n2,4,none⟩)),Is (.slice (some ⟨kb,ko,none⟩) keys.length c4),Is (.int .i64 i),Is (.pointer (some ⟨kb,ko+i,none⟩)),Is (.string key)]
  zk jC.trans jC.refl (jC.refl _).drew zk ⟨jJ,jJ,jJ,jJ,jJ,jJ,trivial⟩ rfl ?_ ?_
 rotate_left
 ·intro y w2 hG hF;simp only[zV,Is,and_true,Nat.reduceAdd] at hF;simp only[jF,Act.put,zq,List.drop_succ_cons,List.drop_zero];simp only[hF];clear hF;have HW1:=zh (HE.grew hG);clear hG cb f4 ck;go_wp2_with fail;refine (HW1.call λκ1 hb hz=>xR key HKZ.out HG.out hb).mono ?_;rintro r w3 ⟨rfl,he⟩;have HEV:=zh he;have HGW4:=zh (Env.old HB.out HGW.out HWB.out he);have cb:=Env.cell he HM1.out 0 _ rfl;have f5:=Env.cell he HM2.out 5 _ rfl;obtain⟨e0,e1,e2,e3,e4,e5⟩:=(HC6.grew HGW4.out).get;clear he;go_wp2_with fail;refine zM jC 6 [[],[],[1],[],[1,2,3],[1,2,3,4],[0,1,2,3,4,5]] [[(12,1),(13,2),(14,3),(15,4),(16,5)],[(11,0),(14,3)],[(11,0),(12,1),(14,3)],[(11,0),(12,1),(13,2)],[(11,0),(12,1),(13,2),(14,3)],[(11,0),(12,1),(13,2),(14,3),(15,4)],[(11,0),(12,1),(13,2),(14,3),(15,4),(16,5)]] [(11,0),(12,1),(13,2),(14,3),(15,4),(16,5)]
   [Is (jI q.p),Is (.pointer (some ⟨n2,5,none⟩)),Is (.slice (some ⟨lb,lo,none⟩) l.length c5),Is (.int .i64 i),Is (.pointer (some ⟨lb,lo+i*6,none⟩)),Is (.agg #[.int .i64 xk,.int .i64 xn,.int .u64 xu,.string xs,.slice xa4 xn4 xc4,.slice xa5 xn5 xc5])]
   zk jC.trans jC.refl (jC.refl _).drew zk ⟨jJ,jJ,jJ,jJ,jJ,jJ,trivial⟩ rfl ?_ ?_
  rotate_left
  ·intro y w2 hG hF;simp only[zV,Is,and_true,Nat.reduceAdd] at hF;simp only[jF,Act.put,zq,List.drop_succ_cons,List.drop_zero];simp only[hF];clear hF;have HW5:=zh (HEV.grew hG);have HGW5:=zh (HGW4.trans hG);clear hG;go_wp2_with fail;refine (HW5.call λκ1 hb hz=>HIH.out κ1 _ w2 HGW5.out HGK.out hb).mono ?_;rintro r w3 ⟨rfl,he⟩;have HT:=zh he;clear he;go_wp2;go_end0;exact⟨rfl,HT.turn⟩
  constructor
  ·exact iK
  refine⟨zst,?_⟩;constructor
  ·intro y w2 hG hD K hK;have df5:=hG.cell f5;exact zsr
  refine⟨zst,zst,?_⟩;constructor
  ·exact zb109
  trivial
 constructor
 ·exact iK
 refine⟨zst,?_⟩;constructor
 ·intro y w2 hG hD K hK;have df4:=hG.cell f4;exact zsr
 refine⟨zst,zst,?_⟩;constructor
 ·intro y w2 hG hD K hK;have dck:=hG.cell ck;exact zsr
 trivial
theorem GN (hWB:W.heap.size≤B):∀(m:Nat) (t:Tr),t.size≤m→∀(v:Value) (κ:Nat→Nat) (x:BS) (w:World),jM W t v→okE t→jC W w→x.Good→Bd B q jB jD κ x w→Calls prog 46 #[jI q.p,v] w λr w'=>r=.returned (.tuple #[])∧kL B q jB jD κ (kT jB jD t x) w w':=by
 have HWB:=zh hWB;clear hWB;intro m
 induction m with
 | zero=>intro t ht;have:=t.size_pos;omega
 | succ m ih=>
  intro t ht v κ x w hn hok hW hg h;obtain⟨k,n,u,s,keys,l⟩:=t;have hrg:=nH hn;simp only[jM] at hn;obtain⟨hb,kv,lv,vs,rfl,hks,yU,zN⟩:=hn;have hkl:vs.length=l.length:=zN.length;obtain⟨⟨o1,o2,o3,o4⟩,o5⟩:=hok;have ho5:=okEL_iff.1 o5;have hrl:=rngL_iff.1 hrg.2;obtain⟨rn,ru⟩:=hrg.1;have HKS:=zh hks;have HK:=zh zN;obtain⟨a4,c4,rfl,hx1,hx2,hx3,hx4⟩:=hks;clear hx1 hx2 hx3 hx4;have kU:=zh yU;obtain⟨a5,c5,rfl,hx1,hc5,hx3,hx4⟩:=yU;clear hx1 hx3 hx4;rw[hkl] at kU⊢;have HSZ:Hid (∀x∈l,x.size≤m):=λx hx=>by have:=JC hx;simp only[Tr.size] at ht;omega
  have HOK:=zh ho5;have HRL:=zh hrl;have HB:=zh h;have HG:=zh hg;have HGW:=zh hW;have HZ:=zh (qa o1 (qa o2 o4));have HLL:=zh o3;have HRN:=zh (qa rn ru);have HIH:=zh ih;obtain⟨N,hN⟩:∃N,w.heap.size=N:=⟨_,rfl⟩
  have HE:Hid (Env B q jB jD w κ [(N+1,Obj.cells #[.int .i64 k,.int .i64 n,.int .u64 u,.string s,.slice a4 keys.length c4,.slice a5 l.length c5] 26 (0,0)),(N,Obj.cells #[jI q.p] 70 (0,0))] x ((w.alloc (.cells #[jI q.p] 70)).alloc (.cells #[.int .i64 k,.int .i64 n,.int .u64 u,.string s,.slice a4 keys.length c4,.slice a5 l.length c5] 26))):=by
   have hh:=((Env.start h).add (.cells #[jI q.p] 70)).add (.cells #[.int .i64 k,.int .i64 n,.int .u64 u,.string s,.slice a4 keys.length c4,.slice a5 l.length c5] 26);simp only[zm,Nat.add_assoc,Nat.reduceAdd,hN] at hh;exact hh
  have HG0:Hid (jC w ((w.alloc (.cells #[jI q.p] 70)).alloc (.cells #[.int .i64 k,.int .i64 n,.int .u64 u,.string s,.slice a4 keys.length c4,.slice a5 l.length c5] 26))):=((jC.refl w).alloc _).alloc _;have HM2:Hid ((N+1,Obj.cells #[.int .i64 k,.int .i64 n,.int .u64 u,.string s,.slice a4 keys.length c4,.slice a5 l.length c5] 26 (0,0))∈([(N+1,Obj.cells #[.int .i64 k,.int .i64 n,.int .u64 u,.string s,.slice a4 keys.length c4,.slice a5 l.length c5] 26 (0,0)),(N,Obj.cells #[jI q.p] 70 (0,0))]:List (Nat × Obj))):=zx;have HM1:Hid ((N,Obj.cells #[jI q.p] 70 (0,0))∈([(N+1,Obj.cells #[.int .i64 k,.int .i64 n,.int .u64 u,.string s,.slice a4 keys.length c4,.slice a5 l.length c5] 26 (0,0)),(N,Obj.cells #[jI q.p] 70 (0,0))]:List (Nat × Obj))):=zj _ zx;have cb:=Env.cell HE.out HM1.out 0 _ rfl;have g0:=Env.cell HE.out HM2.out 0 _ rfl;have g1:=Env.cell HE.out HM2.out 1 _ rfl;have g2:=Env.cell HE.out HM2.out 2 _ rfl;have g3:=Env.cell HE.out HM2.out 3 _ rfl;have g4:=Env.cell HE.out HM2.out 4 _ rfl;have g5:=Env.cell HE.out HM2.out 5 _ rfl;have HNN:=zh hN;clear h hg hW ih o1 o2 o4 o5 ho5 hrl hrg hb rn ru zN hkl hc5 ht;have hk9:k=11∨k=12∨k=14∨k=13∨k=15∨k=16∨k=10∨k=17∨(k≠11∧k≠12∧k≠14∧k≠13∧k≠15∧k≠16∧k≠10∧k≠17):=by omega
  obtain rfl|rfl|rfl|rfl|rfl|rfl|rfl|rfl|hkn:=hk9
  ·have HD:Hid (kT jB jD (.mk 11 n u s keys l) x=_):=NT
   have HRG:Hid (∀x∈l.map Tr.fn,-9223372036854775808≤x∧x≤9223372036854775807):=λx hx=>by
    obtain⟨z,hz,rfl⟩:=qh.1 hx;have:=HRL.out z hz;cases z;exact this.1.1
   have HLN:Hid ((l.map Tr.fn).length≤1048576):=by show _≤_;rw[qb];have:=HLL.out;omega
   obtain⟨M,hM⟩:∃M,l.map Tr.fn=M:=⟨_,rfl⟩;rw[hM] at HD HRG HLN;have HMV:=zh hM;clear hM;go_enter func46,ntmps46;go_wp2_with fail;generalize ((w.alloc (.cells #[jI q.p] 70)).alloc (.cells #[.int .i64 11,.int .i64 n,.int .u64 u,.string s,.slice a4 keys.length c4,.slice a5 l.length c5] 26))=wb at *;refine zM jC 3 [[],[],[1],[0,1,2]] [[(18,1),(19,2)],[(17,0)],[(17,0),(18,1)],[(17,0),(18,1),(19,2)]] [(17,0),(18,1),(19,2)]
    [Is (jI q.p),Is (.agg #[.int .i64 11,.int .i64 n,.int .u64 u,.string s,.slice a4 keys.length c4,.slice a5 l.length c5]),λv w=>yE (λx=>.int .i64 x) w v M]
    zk jC.trans jC.refl (jC.refl _).drew zk ⟨jJ,jJ,λ_ _ _ hg h=>yE.grew h hg,trivial⟩ rfl ?_ ?_
   rotate_left
   ·intro y w2 hG hF;simp only[zV,Is,and_true,Nat.reduceAdd] at hF;have h2:=hF.2.2;simp only[jF,Act.put,zq,List.drop_succ_cons,List.drop_zero];simp only[hF];clear hF;have HG5:=zh (HG0.trans hG);have HC:=zh h2;obtain⟨va,vc,hvv,_⟩:=h2;rw[hvv] at HC⊢;clear hG hvv;go_wp2_with fail;refine (FS M _ HC.out HRG.out HLN.out HG.out (HB.grew HG5.out)).mono ?_;rintro r w3 ⟨rfl,ht⟩;have HT:=zh (ht.after HG5.out);clear ht;go_wp2;go_end0;exact⟨rfl,by rw[HD];exact HT.out⟩
   constructor
   ·exact iK
   constructor
   ·exact rU
   constructor
   ·intro y w2 hG hD K hK;simp only[kC,zq4,zq5,Is,and_true] at hD;simp only[jF,Act.put,zq,Is] at hK⊢;simp only[hD] at hK⊢;clear hD;refine jN ?_;go_simp;refine (rS 11 n u s a4 keys.length c4 a5 c5 l vs w2 (kU.grew (HGW.trans (HG0.trans hG))) (HK.grew (HGW.trans (HG0.trans hG))) HLL.out).mono ?_;rintro r w3 ⟨v',rfl,ho,hg3⟩;exact hK _ _ _ rfl hg3 zp18
   trivial
  ·have HD:Hid (kT jB jD (.mk 12 n u s keys l) x=_):=NU
   have HRG:Hid (∀x∈l.map Tr.fu,0≤x∧x≤18446744073709551615):=λx hx=>by
    obtain⟨z,hz,rfl⟩:=qh.1 hx;have:=HRL.out z hz;cases z;exact this.1.2
   have HLN:Hid ((l.map Tr.fu).length≤1048576):=by show _≤_;rw[qb];have:=HLL.out;omega
   obtain⟨M,hM⟩:∃M,l.map Tr.fu=M:=⟨_,rfl⟩;rw[hM] at HD HRG HLN;have HMV:=zh hM;clear hM;go_enter func46,ntmps46;go_wp2_with fail;generalize ((w.alloc (.cells #[jI q.p] 70)).alloc (.cells #[.int .i64 12,.int .i64 n,.int .u64 u,.string s,.slice a4 keys.length c4,.slice a5 l.length c5] 26))=wb at *;refine zM jC 3 [[],[],[1],[0,1,2]] [[(24,1),(25,2)],[(23,0)],[(23,0),(24,1)],[(23,0),(24,1),(25,2)]] [(23,0),(24,1),(25,2)]
    [Is (jI q.p),Is (.agg #[.int .i64 12,.int .i64 n,.int .u64 u,.string s,.slice a4 keys.length c4,.slice a5 l.length c5]),λv w=>yE (λx=>.int .u64 x) w v M]
    zk jC.trans jC.refl (jC.refl _).drew zk ⟨jJ,jJ,λ_ _ _ hg h=>yE.grew h hg,trivial⟩ rfl ?_ ?_
   rotate_left
   ·intro y w2 hG hF;simp only[zV,Is,and_true,Nat.reduceAdd] at hF;have h2:=hF.2.2;simp only[jF,Act.put,zq,List.drop_succ_cons,List.drop_zero];simp only[hF];clear hF;have HG5:=zh (HG0.trans hG);have HC:=zh h2;obtain⟨va,vc,hvv,_⟩:=h2;rw[hvv] at HC⊢;clear hG hvv;go_wp2_with fail;refine (CE M _ HC.out HRG.out HLN.out HG.out (HB.grew HG5.out)).mono ?_;rintro r w3 ⟨rfl,ht⟩;have HT:=zh (ht.after HG5.out);clear ht;go_wp2;go_end0;exact⟨rfl,by rw[HD];exact HT.out⟩
   constructor
   ·exact iK
   constructor
   ·exact rU
   constructor
   ·intro y w2 hG hD K hK;simp only[kC,zq4,zq5,Is,and_true] at hD;simp only[jF,Act.put,zq,Is] at hK⊢;simp only[hD] at hK⊢;clear hD;refine jN ?_;go_simp;refine (rT 12 n u s a4 keys.length c4 a5 c5 l vs w2 (kU.grew (HGW.trans (HG0.trans hG))) (HK.grew (HGW.trans (HG0.trans hG))) HLL.out).mono ?_;rintro r w3 ⟨v',rfl,ho,hg3⟩;exact hK _ _ _ rfl hg3 zp18
   trivial
  ·have HD:Hid (kT jB jD (.mk 14 n u s keys l) x=_):=NV
   have HRG:Hid (∀x∈l.map (λt=>decide (t.fn=1)),True):=λx hx=>by
    trivial
   have HLN:Hid ((l.map (λt=>decide (t.fn=1))).length≤1048576):=by show _≤_;rw[qb];have:=HLL.out;omega
   obtain⟨M,hM⟩:∃M,l.map (λt=>decide (t.fn=1))=M:=⟨_,rfl⟩;rw[hM] at HD HRG HLN;have HMV:=zh hM;clear hM;go_enter func46,ntmps46;go_wp2_with fail;generalize ((w.alloc (.cells #[jI q.p] 70)).alloc (.cells #[.int .i64 14,.int .i64 n,.int .u64 u,.string s,.slice a4 keys.length c4,.slice a5 l.length c5] 26))=wb at *;refine zM jC 3 [[],[],[1],[0,1,2]] [[(30,1),(31,2)],[(29,0)],[(29,0),(30,1)],[(29,0),(30,1),(31,2)]] [(29,0),(30,1),(31,2)]
    [Is (jI q.p),Is (.agg #[.int .i64 14,.int .i64 n,.int .u64 u,.string s,.slice a4 keys.length c4,.slice a5 l.length c5]),λv w=>yE (λx=>.bool x) w v M]
    zk jC.trans jC.refl (jC.refl _).drew zk ⟨jJ,jJ,λ_ _ _ hg h=>yE.grew h hg,trivial⟩ rfl ?_ ?_
   rotate_left
   ·intro y w2 hG hF;simp only[zV,Is,and_true,Nat.reduceAdd] at hF;have h2:=hF.2.2;simp only[jF,Act.put,zq,List.drop_succ_cons,List.drop_zero];simp only[hF];clear hF;have HG5:=zh (HG0.trans hG);have HC:=zh h2;obtain⟨va,vc,hvv,_⟩:=h2;rw[hvv] at HC⊢;clear hG hvv;go_wp2_with fail;refine (CF M _ HC.out HRG.out HLN.out HG.out (HB.grew HG5.out)).mono ?_;rintro r w3 ⟨rfl,ht⟩;have HT:=zh (ht.after HG5.out);clear ht;go_wp2;go_end0;exact⟨rfl,by rw[HD];exact HT.out⟩
   constructor
   ·exact iK
   constructor
   ·exact rU
   constructor
   ·intro y w2 hG hD K hK;simp only[kC,zq4,zq5,Is,and_true] at hD;simp only[jF,Act.put,zq,Is] at hK⊢;simp only[hD] at hK⊢;clear hD;refine jN ?_;go_simp;refine (GK 14 n u s a4 keys.length c4 a5 c5 l vs w2 (kU.grew (HGW.trans (HG0.trans hG))) (HK.grew (HGW.trans (HG0.trans hG))) HLL.out).mono ?_;rintro r w3 ⟨v',rfl,ho,hg3⟩;exact hK _ _ _ rfl hg3 zp18
   trivial
  ·have HD:Hid (kT jB jD (.mk 13 n u s keys l) x=_):=NW
   have HRG:Hid (∀x∈l.map Tr.fs,x.size≤1048576):=λx hx=>by
    obtain⟨z,hz,rfl⟩:=qh.1 hx;have:=HOK.out z hz;cases z;exact this.1.1
   have HLN:Hid ((l.map Tr.fs).length≤1048576):=by show _≤_;rw[qb];have:=HLL.out;omega
   obtain⟨M,hM⟩:∃M,l.map Tr.fs=M:=⟨_,rfl⟩;rw[hM] at HD HRG HLN;have HMV:=zh hM;clear hM;go_enter func46,ntmps46;go_wp2_with fail;generalize ((w.alloc (.cells #[jI q.p] 70)).alloc (.cells #[.int .i64 13,.int .i64 n,.int .u64 u,.string s,.slice a4 keys.length c4,.slice a5 l.length c5] 26))=wb at *;refine zM jC 3 [[],[],[1],[0,1,2]] [[(36,1),(37,2)],[(35,0)],[(35,0),(36,1)],[(35,0),(36,1),(37,2)]] [(35,0),(36,1),(37,2)]
    [Is (jI q.p),Is (.agg #[.int .i64 13,.int .i64 n,.int .u64 u,.string s,.slice a4 keys.length c4,.slice a5 l.length c5]),λv w=>∃Wr,jC wb Wr∧jC Wr w∧w.ownsRow Wr.heap.size 9 1 v M.length (M.map λx=>.string x)]
    zk jC.trans jC.refl (jC.refl _).drew zk ⟨jJ,jJ,λ_ _ _ hg ⟨Wr,h1,h2,h3⟩=>⟨Wr,h1,h2.trans hg,qF h3 hg⟩,trivial⟩ rfl ?_ ?_
   rotate_left
   ·intro y w2 hG hF;simp only[zV,Is,and_true,Nat.reduceAdd] at hF;have h2:=hF.2.2;simp only[jF,Act.put,zq,List.drop_succ_cons,List.drop_zero];simp only[hF];clear hF;have HG5:=zh (HG0.trans hG);obtain⟨Wr,hgr,hgr2,hro⟩:=h2;have HGR:=zh (HG0.trans hgr);have HGR2:=zh hgr2;have HRO:=zh hro;obtain⟨va,vc,hvv,hz1,hz2,hz3⟩:=jR hro;rw[hvv] at HRO⊢;clear hG hvv hgr hgr2 hro hz1 hz2 hz3;obtain⟨ml,hml⟩:∃ml,M.length=ml:=⟨_,rfl⟩;rw[hml];have HML:=zh hml;clear hml;go_wp2_with fail;refine (by have h:=FU va vc M (eR HRO.out) (AW (HB.grew HGR.out) HRO.out) HRG.out HLN.out HG.out (HB.grew HG5.out);rw[HML] at h;exact h:Calls prog 82 #[jI q.p,.slice va ml vc] w2 λr w'=>r=.returned (.tuple #[])∧kL B q jB jD κ (x.keyVec jB (onF jD 1) M) w2 w').mono ?_;rintro r w3 ⟨rfl,ht⟩;have HT:=zh (ht.after HG5.out);clear ht;go_wp2;go_end0;exact⟨rfl,by rw[HD];exact HT.out⟩
   constructor
   ·exact iK
   constructor
   ·exact rU
   constructor
   ·intro y w2 hG hD K hK;simp only[kC,zq4,zq5,Is,and_true] at hD;simp only[jF,Act.put,zq,Is] at hK⊢;simp only[hD] at hK⊢;clear hD;refine jN ?_;go_simp;refine (GL 13 n u s a4 keys.length c4 a5 c5 l vs w2 (kU.grew (HGW.trans (HG0.trans hG))) (HK.grew (HGW.trans (HG0.trans hG))) HLL.out).mono ?_;rintro r w3 ⟨v',rfl,ho,hg3⟩;exact hK _ _ _ rfl hg3 ⟨w2,hG,hg3,by rw[← HMV.out];exact ho⟩
   trivial
  ·have HD:Hid (kT jB jD (.mk 15 n u s keys l) x=_):=NX
   have HRG:Hid (∀x∈l.map Tr.fn,-9223372036854775808≤x∧x≤9223372036854775807):=λx hx=>by
    obtain⟨z,hz,rfl⟩:=qh.1 hx;have:=HRL.out z hz;cases z;exact this.1.1
   have HLN:Hid ((l.map Tr.fn).length≤1048576):=by show _≤_;rw[qb];have:=HLL.out;omega
   obtain⟨M,hM⟩:∃M,l.map Tr.fn=M:=⟨_,rfl⟩;rw[hM] at HD HRG HLN;have HMV:=zh hM;clear hM;go_enter func46,ntmps46;go_wp2_with fail;generalize ((w.alloc (.cells #[jI q.p] 70)).alloc (.cells #[.int .i64 15,.int .i64 n,.int .u64 u,.string s,.slice a4 keys.length c4,.slice a5 l.length c5] 26))=wb at *;refine zM jC 3 [[],[],[1],[0,1,2]] [[(42,1),(43,2)],[(41,0)],[(41,0),(42,1)],[(41,0),(42,1),(43,2)]] [(41,0),(42,1),(43,2)]
    [Is (jI q.p),Is (.agg #[.int .i64 15,.int .i64 n,.int .u64 u,.string s,.slice a4 keys.length c4,.slice a5 l.length c5]),λv w=>yE (λx=>.int .i64 x) w v M]
    zk jC.trans jC.refl (jC.refl _).drew zk ⟨jJ,jJ,λ_ _ _ hg h=>yE.grew h hg,trivial⟩ rfl ?_ ?_
   rotate_left
   ·intro y w2 hG hF;simp only[zV,Is,and_true,Nat.reduceAdd] at hF;have h2:=hF.2.2;simp only[jF,Act.put,zq,List.drop_succ_cons,List.drop_zero];simp only[hF];clear hF;have HG5:=zh (HG0.trans hG);have HC:=zh h2;obtain⟨va,vc,hvv,_⟩:=h2;rw[hvv] at HC⊢;clear hG hvv;go_wp2_with fail;refine (tJ M _ HC.out HRG.out HLN.out HG.out (HB.grew HG5.out)).mono ?_;rintro r w3 ⟨rfl,ht⟩;have HT:=zh (ht.after HG5.out);clear ht;go_wp2;go_end0;exact⟨rfl,by rw[HD];exact HT.out⟩
   constructor
   ·exact iK
   constructor
   ·exact rU
   constructor
   ·intro y w2 hG hD K hK;simp only[kC,zq4,zq5,Is,and_true] at hD;simp only[jF,Act.put,zq,Is] at hK⊢;simp only[hD] at hK⊢;clear hD;refine jN ?_;go_simp;refine (rS 15 n u s a4 keys.length c4 a5 c5 l vs w2 (kU.grew (HGW.trans (HG0.trans hG))) (HK.grew (HGW.trans (HG0.trans hG))) HLL.out).mono ?_;rintro r w3 ⟨v',rfl,ho,hg3⟩;exact hK _ _ _ rfl hg3 zp18
   trivial
  ·have HD:Hid (kT jB jD (.mk 16 n u s keys l) x=_):=NY
   have HRG:Hid (∀x∈l.map Tr.fu,0≤x∧x≤18446744073709551615):=λx hx=>by
    obtain⟨z,hz,rfl⟩:=qh.1 hx;have:=HRL.out z hz;cases z;exact this.1.2
   have HLN:Hid ((l.map Tr.fu).length≤1048576):=by show _≤_;rw[qb];have:=HLL.out;omega
   obtain⟨M,hM⟩:∃M,l.map Tr.fu=M:=⟨_,rfl⟩;rw[hM] at HD HRG HLN;have HMV:=zh hM;clear hM;go_enter func46,ntmps46;go_wp2_with fail;generalize ((w.alloc (.cells #[jI q.p] 70)).alloc (.cells #[.int .i64 16,.int .i64 n,.int .u64 u,.string s,.slice a4 keys.length c4,.slice a5 l.length c5] 26))=wb at *;refine zM jC 3 [[],[],[1],[0,1,2]] [[(48,1),(49,2)],[(47,0)],[(47,0),(48,1)],[(47,0),(48,1),(49,2)]] [(47,0),(48,1),(49,2)]
    [Is (jI q.p),Is (.agg #[.int .i64 16,.int .i64 n,.int .u64 u,.string s,.slice a4 keys.length c4,.slice a5 l.length c5]),λv w=>yE (λx=>.int .u64 x) w v M]
    zk jC.trans jC.refl (jC.refl _).drew zk ⟨jJ,jJ,λ_ _ _ hg h=>yE.grew h hg,trivial⟩ rfl ?_ ?_
   rotate_left
   ·intro y w2 hG hF;simp only[zV,Is,and_true,Nat.reduceAdd] at hF;have h2:=hF.2.2;simp only[jF,Act.put,zq,List.drop_succ_cons,List.drop_zero];simp only[hF];clear hF;have HG5:=zh (HG0.trans hG);have HC:=zh h2;obtain⟨va,vc,hvv,_⟩:=h2;rw[hvv] at HC⊢;clear hG hvv;go_wp2_with fail;refine (oI M _ HC.out HRG.out HLN.out HG.out (HB.grew HG5.out)).mono ?_;rintro r w3 ⟨rfl,ht⟩;have HT:=zh (ht.after HG5.out);clear ht;go_wp2;go_end0;exact⟨rfl,by rw[HD];exact HT.out⟩
   constructor
   ·exact iK
   constructor
   ·exact rU
   constructor
   ·intro y w2 hG hD K hK;simp only[kC,zq4,zq5,Is,and_true] at hD;simp only[jF,Act.put,zq,Is] at hK⊢;simp only[hD] at hK⊢;clear hD;refine jN ?_;go_simp;refine (rT 16 n u s a4 keys.length c4 a5 c5 l vs w2 (kU.grew (HGW.trans (HG0.trans hG))) (HK.grew (HGW.trans (HG0.trans hG))) HLL.out).mono ?_;rintro r w3 ⟨v',rfl,ho,hg3⟩;exact hK _ _ _ rfl hg3 zp18
   trivial
  ·have HD:Hid (kT jB jD (.mk 10 n u s keys l) x=_):=NQ;go_enter func46,ntmps46;go_wp2_with fail;generalize ((w.alloc (.cells #[jI q.p] 70)).alloc (.cells #[.int .i64 10,.int .i64 n,.int .u64 u,.string s,.slice a4 keys.length c4,.slice a5 l.length c5] 26))=wb at *;refine (NO (HB.grew HG0.out)).mono ?_;rintro r w4 ⟨rfl,rfl⟩;have HSTK:Hid (x.stk.length≤65536):=HB.ok.stk;obtain⟨sl,hsl⟩:∃sl,x.stk.length=sl:=⟨_,rfl⟩;rw[hsl] at HSTK HD⊢;clear hsl;go_wp2_with fail
   go_loopw [58] (λi wr=>∃j:Nat,j≤l.length∧i=.int .i64 j∧Hid (Env B q jB jD w κ [(N+1,Obj.cells #[.int .i64 10,.int .i64 n,.int .u64 u,.string s,.slice a4 keys.length c4,.slice a5 l.length c5] 26 (0,0)),(N,Obj.cells #[jI q.p] 70 (0,0))] (qE jB jD (l.take j) x) wr)) (λi _=>l.length - (intOf i).toNat)
   case atStart=>exact⟨0,Nat.zero_le _,rfl,HE.out⟩
   case round=>
    obtain⟨j,hj,rfl,HW⟩:=hrel;clear cb g0 g1 g2 g3 g4 g5;by_cases hlt:j < l.length
    ·obtain⟨z,hz⟩:∃z,l[j]? = some z:=⟨_,za hlt⟩;obtain⟨xv,hxv,hnx⟩:=HK.get hz;have hzm:z∈l:=qd hz
     obtain⟨b,off,hab,hc6⟩:∃b off,a5=some ⟨b,off,none⟩∧yO W b (off+j*6) xv:=by
      obtain⟨a,c,e,_,_,_,h⟩:=kU.out;injection e with e1 e2 e3;subst e1;exact h j xv hxv
     subst hab;have HGWr:=zh (Env.old HB.out HGW.out HWB.out HW.out);obtain⟨xk,xn,xu,xs,xa4,xn4,xc4,xa5,xn5,xc5,rfl⟩:=hnx.node6;obtain⟨e0,e1,e2,e3,e4,e5⟩:=(hc6.grew HGWr.out).get
     have HSN:Hid (qE jB jD (l.take (j+1)) x=kT jB jD z (qE jB jD (l.take j) x)):=by
      show _=_;rw[← iC,qo,hz];rfl
     have HGD:Hid ((qE jB jD (l.take j) x).Good):=QG _ HG.out;have HZS:=zh (HSZ.out z hzm);have HZO:=zh (HOK.out z hzm);have HNX:=zh hnx;have HGR:=zh ((jC.refl wr).alloc (.cells #[.int .i64 xk,.int .i64 xn,.int .u64 xu,.string xs,.slice xa4 xn4 xc4,.slice xa5 xn5 xc5] 26));have cb:=Env.cell (HW.grew HGR.out) HM1.out 0 _ rfl;generalize qE jB jD (l.take j) x=Y at *;clear hc6 hz hxv hnx hzm;have hji:(j:Int) < l.length:=(by omega);go_wp2_with fail;generalize wr.alloc _=ws at *;refine ((HW.grew HGR.out).call λκ1 hb hz=>HIH.out z HZS.out _ κ1 Y ws HNX.out HZO.out (HGWr.trans HGR.out) HGD.out hb).mono ?_;rintro r w5 ⟨rfl,he⟩;have HE5:=zh he;clear he cb e0 e1 e2 e3 e4 e5;go_wp2_with fail;go_roundw
     case rel=>exact⟨j+1,by omega,by go_num,by rw[HSN];exact HE5.out⟩
     case measure=>simp[intOf];omega
    have ej:j=l.length:=(by omega);subst ej;have hw:=HW.out;rw[qn] at hw;have HWE:=zh hw;have HGD:Hid ((qE jB jD l x).Good):=QG _ HG.out;have cb:=Env.cell hw HM1.out 0 _ rfl;generalize qE jB jD l x=Y at *;clear hw HW;have hji:¬((l.length:Nat):Int) < l.length:=(by omega);go_wp2_with fail;refine (HWE.call λκ1 hb hz=>x7 (sl:Int) HGD.out hb).mono ?_;rintro r w5 ⟨rfl,he⟩;have HT:=zh he;clear he;go_wp2;go_end0;exact⟨rfl,by rw[HD];exact HT.turn⟩
  ·have HD:Hid (kT jB jD (.mk 17 n u s keys l) x=_):=NR;have HKL:Hid (keys.length=l.length):=HZ.2.2 rfl;go_enter func46,ntmps46;go_wp2_with fail;generalize ((w.alloc (.cells #[jI q.p] 70)).alloc (.cells #[.int .i64 17,.int .i64 n,.int .u64 u,.string s,.slice a4 keys.length c4,.slice a5 l.length c5] 26))=wb at *;refine (NP (HB.grew HG0.out)).mono ?_;rintro r w4 ⟨rfl,rfl⟩;have HSTK:Hid (x.stk.length≤65536):=HB.ok.stk;obtain⟨sl,hsl⟩:∃sl,x.stk.length=sl:=⟨_,rfl⟩;rw[hsl] at HSTK HD⊢;clear hsl;go_wp2_with fail
   go_loopw [77] (λi wr=>∃j:Nat,j≤l.length∧i=.int .i64 j∧Hid (Env B q jB jD w κ [(N+1,Obj.cells #[.int .i64 17,.int .i64 n,.int .u64 u,.string s,.slice a4 keys.length c4,.slice a5 l.length c5] 26 (0,0)),(N,Obj.cells #[jI q.p] 70 (0,0))] (qZ jB jD (l.take j) (keys.take j) x) wr)) (λi _=>l.length - (intOf i).toNat)
   case atStart=>exact⟨0,Nat.zero_le _,rfl,HE.out⟩
   case round=>
    obtain⟨j,hj,rfl,HW⟩:=hrel;clear cb g0 g1 g2 g3 g4 g5;by_cases hlt:j < l.length
    ·obtain⟨z,hz⟩:∃z,l[j]? = some z:=⟨_,za hlt⟩;obtain⟨xv,hxv,hnx⟩:=HK.get hz;have hzm:z∈l:=qd hz
     obtain⟨b,off,hab,hc6⟩:∃b off,a5=some ⟨b,off,none⟩∧yO W b (off+j*6) xv:=by
      obtain⟨a,c,e,_,_,_,h⟩:=kU.out;injection e with e1 e2 e3;subst e1;exact h j xv hxv
     subst hab;obtain⟨key,hkey⟩:∃key,keys[j]? = some key:=⟨_,za (by have:=HKL.out;omega)⟩
     obtain⟨kb,ko,hak,hck⟩:∃kb ko,a4=some ⟨kb,ko,none⟩∧W.cell? ⟨kb,ko+j,none⟩=some (.string key):=by
      obtain⟨a,c,e,_,_,_,h⟩:=HKS.out;injection e with e1 e2 e3;subst e1;exact (h j key hkey).2
     subst hak;have HGWr:=zh (Env.old HB.out HGW.out HWB.out HW.out);obtain⟨xk,xn,xu,xs,xa4,xn4,xc4,xa5,xn5,xc5,rfl⟩:=hnx.node6
     have HSN:Hid (qZ jB jD (l.take (j+1)) (keys.take (j+1)) x=kT jB jD z ((qZ jB jD (l.take j) (keys.take j) x).key jB (onF jD 1) key)):=by
      show _=_;rw[← iD _ _ _ _ _ (by rw[qr,qr,HKL]),qo,qo,hz,hkey];rfl
     have HGD:Hid ((qZ jB jD (l.take j) (keys.take j) x).Good):=QH _ _ HG.out;have HZS:=zh (HSZ.out z hzm);have HZO:=zh (HOK.out z hzm);have HNX:=zh hnx;have HC6:=zh hc6;have HCK:=zh hck;have HKY:=zh (HZ.2.1 key (qd hkey));generalize qZ jB jD (l.take j) (keys.take j) x=Y at *;clear hc6 hz hxv hnx hzm hck hkey;have hji:(j:Int) < l.length:=(by omega);have HJ:=zh hlt;go_wp2_with fail;refine (HW.call' λκ1 hb he=>GM N (N+1) 17 n u s kb ko keys c4 b off l c5 j key z xk xn xu xs xa4 xn4 xc4 xa5 xn5 xc5 HWB.out HGWr.out (by have:=HKL.out;have:=HJ.out;omega) HJ.out (by have:=HKL.out;have:=HLL.out;omega) HLL.out HCK.out HKY.out HC6.out (λκ2 y w1 hw1 hy hb1=>HIH.out z HZS.out _ κ2 y w1 HNX.out HZO.out hw1 hy hb1) HGD.out hb he).mono ?_;rintro r w5 ⟨rfl,he⟩;have HE5:=zh he;clear he;go_wp2_with fail;go_roundw
     case rel=>exact⟨j+1,by omega,by go_num,by rw[HSN];exact HE5.out⟩
     case measure=>simp[intOf];omega
    have ej:j=l.length:=(by omega);subst ej;have hw:=HW.out;have ekk:keys.take l.length=keys:=(by rw[← HKL.out,qn]);rw[qn,ekk] at hw;have HWE:=zh hw;have HGD:Hid ((qZ jB jD l keys x).Good):=QH _ _ HG.out;have cb:=Env.cell hw HM1.out 0 _ rfl;generalize qZ jB jD l keys x=Y at *;clear hw HW;have hji:¬((l.length:Nat):Int) < l.length:=(by omega);go_wp2_with fail;refine (HWE.call λκ1 hb hz=>AU (sl:Int) HGD.out hb).mono ?_;rintro r w5 ⟨rfl,he⟩;have HT:=zh he;clear he;go_wp2;go_end0;exact⟨rfl,by rw[HD];exact HT.turn⟩
  have HD:Hid (kT jB jD (.mk k n u s keys l) x=_):=C7 hkn;obtain⟨m1,m2,m3,m4,m5,m6,m7,m8⟩:=hkn;have p11:(k == 11)=false:=by simpa using m1
  have p12:(k == 12)=false:=by simpa using m2
  have p14:(k == 14)=false:=by simpa using m3
  have p13:(k == 13)=false:=by simpa using m4
  have p15:(k == 15)=false:=by simpa using m5
  have p16:(k == 16)=false:=by simpa using m6
  have p10:(k == 10)=false:=by simpa using m7
  have p17:(k == 17)=false:=by simpa using m8
  clear m1 m2 m3 m4 m5 m6 m7 m8;go_enter func46,ntmps46;go_wp2_with fail;generalize ((w.alloc (.cells #[jI q.p] 70)).alloc (.cells #[.int .i64 k,.int .i64 n,.int .u64 u,.string s,.slice a4 keys.length c4,.slice a5 l.length c5] 26))=wb at *;refine (NN k n u s a4 keys.length c4 a5 l.length c5 HRN.1 HRN.2 HZ.1 HG.out (HB.grew HG0.out)).mono ?_;rintro r w3 ⟨rfl,ht⟩;have HT:=zh (ht.after HG0.out);clear ht;go_wp2;go_end0;exact⟨rfl,by rw[HD];exact HT.out⟩
def YB (jB jD:Int) (t:Tr):List UInt8 × Int:=if JZ t≠0 then ([],JZ t) else ((kT (JV jB) jD (zP t) BS.new).finish (JV jB)).1
theorem iJ {r:Ending} (h:bM w t r w'):jC w w'∧∃(e k n u:Int) (s:ByteArray) (a4:Option Addr) (n4 c4:Nat) (a5:Option Addr) (n5 c5:Nat),r=.returned (.tuple #[.agg #[.int .i64 k,.int .i64 n,.int .u64 u,.string s,.slice a4 n4 c4,.slice a5 n5 c5],.int .i64 e])∧e=JZ t∧(e=0→jM w' (zP t) (.agg #[.int .i64 k,.int .i64 n,.int .u64 u,.string s,.slice a4 n4 c4,.slice a5 n5 c5])):=by
 obtain⟨hg,⟨h0,rfl⟩|⟨h0,v,S,rfl,ho,hf⟩⟩:=h
 ·exact⟨hg,JZ t,0,0,0,⟨#[]⟩,none,0,0,none,0,0,rfl,rfl,λh=>absurd h h0⟩
 obtain⟨k,n,u,s,a4,n4,c4,a5,n5,c5,rfl⟩:=ho.node6;exact⟨hg,0,k,n,u,s,a4,n4,c4,a5,n5,c5,rfl,h0.symm,λ_=>ho.node⟩
theorem AQ.grew_old {y:BS} {v:Value} {d:List UInt8} (h0:Bd B q jB jD κ x w) (hW:jC W w) (hB:W.heap.size≤B) (h:AQ B q jB jD w κ y v d w'):jC W w':=by
 obtain⟨κ1,k1,k2,_⟩:=h;exact Moved.fresh hW k2.1 (λg hg=>zf hB (h0.lt g hg).1)
theorem C8 (jD jB:Int) (t:Tr) (v:Value) (w:World) (hn:jM w t v) (hsz:t.size≤4096) (hok:JZ t=0→okE (zP t)):Calls prog 18 #[v,.int .i64 jD,.int .i64 jB] w λr w'=>∃v',r=.returned (.tuple #[v',.int .i64 (YB jB jD t).2])∧w'.ownsRow w.heap.size 5 1 v' (YB jB jD t).1.length (Lib.byteCells (YB jB jD t).1)∧jC w w':=by
 have HN:=zh hn;have HOK:=zh hok;obtain⟨k,n,u,s,a4,n4,c4,a5,n5,c5,rfl⟩:=hn.node6;have HGA:=zh ((jC.refl w).alloc (.cells #[.int .i64 k,.int .i64 n,.int .u64 u,.string s,.slice a4 n4 c4,.slice a5 n5 c5] 26));have jK:=qc w (.cells #[.int .i64 k,.int .i64 n,.int .u64 u,.string s,.slice a4 n4 c4,.slice a5 n5 c5] 26);obtain⟨g0,g1,g2,g3,g4,g5⟩:=sqr6 jK;clear hn hok jK;obtain⟨R,hR⟩:∃R,YB jB jD t=R:=⟨_,rfl⟩;rw[hR];have HR:=zh hR;clear hR;obtain⟨D,E⟩:=R;dsimp only;go_enter func18,ntmps18;go_wp2_with fail;generalize w.alloc _=w1 at *;refine (l8 t _ w1 (HN.grew HGA.out) zo).mono ?_;intro r w2 h;obtain⟨hg2,e,rk,rn,ru,rs,ra4,rn4,rc4,ra5,rn5,rc5,rfl,he,hnode⟩:=iJ h;have HG2:=zh (HGA.trans hg2);have HNO:=zh hnode;have HEE:=zh he;clear h hg2 he hnode g0 g1 g2 g3 g4 g5;by_cases h0:e=0
 ·subst h0;have HN3:Hid (jM w2 (zP t) (.agg #[.int .i64 rk,.int .i64 rn,.int .u64 ru,.string rs,.slice ra4 rn4 rc4,.slice ra5 rn5 rc5])):=HNO.out rfl;have HOK3:Hid (okE (zP t)):=HOK.out HEE.symm
  have HRV:Hid (((kT (JV jB) jD (zP t) BS.new).finish (JV jB)).1=(D,E)):=by
   show _=_;rw[← HR.out];unfold YB;rw[ze (by rw[← HEE.out];decide)]
  have HG3:=zh ((jC.refl w2).alloc (.cells #[.int .i64 rk,.int .i64 rn,.int .u64 ru,.string rs,.slice ra4 rn4 rc4,.slice ra5 rn5 rc5] 26));have jK:=qc w2 (.cells #[.int .i64 rk,.int .i64 rn,.int .u64 ru,.string rs,.slice ra4 rn4 rc4,.slice ra5 rn5 rc5] 26);obtain⟨g0,g1,g2,g3,g4,g5⟩:=sqr6 jK;have KP:=zh jK;clear jK;go_wp2_with fail;generalize w2.alloc _=w3 at *;refine (NC jD jB w3).mono ?_;rintro r w4 ⟨q,κ,rfl,hb,hg4⟩;have HB:=zh hb;have HG4:=zh hg4;have hr4:=hg4.heap KP.out;clear hb hg4 g0 g1 g2 g3 g4 g5;obtain⟨g0,g1,g2,g3,g4,g5⟩:=sqr6 hr4;clear hr4;go_wp2_with fail;refine (GN (W:=w3) (zr _) _ (zP t) (zr _) _ κ BS.new w4 (HN3.grew HG3.out) HOK3.out HG4.out BS.Good.new HB.out).mono ?_;rintro r w5 ⟨rfl,κ5,hb5,ht5⟩;have HB5:=zh hb5;have HG5:Hid (jC w3 w5):=Moved.fresh HG4.out ht5.1 (λg hg=>(HB.lt g hg).1);clear hb5 ht5 g0 g1 g2 g3 g4 g5;go_wp2_with fail;refine (AR HB5.out).mono ?_;rw[HRV];dsimp only;rintro r w6 ⟨v6,rfl,hf⟩;have HG6:=zh (AQ.grew_old HB5.out HG5.out (zr _) hf);obtain⟨κ6,k1,k2,k3,k4⟩:=hf;obtain⟨va,vc,rfl,hz1,hz2,hz3⟩:=jR k3;have HRO:=zh (JO k3 (zf (HG2.trans HG3.out).size HG5.size));clear k1 k2 k3 k4 hz1 hz2 hz3;go_wp2
  go_ret2
  exact⟨_,rfl,HRO.out,(HG2.trans HG3.out).trans HG6.out⟩
 have hb:(e != 0)=true:=by simpa using h0
 have HRV:Hid (D=[]∧E=e):=by
  have h:=HR.out;unfold YB at h;rw[zl (by rw[← HEE.out];exact h0),← HEE.out] at h;exact⟨(ql Prod.fst h).symm,(ql Prod.snd h).symm⟩
 clear h0;have HG3:=zh ((jC.refl w2).alloc (.cells #[.int .i64 rk,.int .i64 rn,.int .u64 ru,.string rs,.slice ra4 rn4 rc4,.slice ra5 rn5 rc5] 26));go_wp2
 go_ret2
 exact⟨.slice none 0 0,by rw[HRV.2];rfl,by rw[HRV.1];exact World.ownsRow_nil _ _ _ _,HG2.trans HG3.out⟩
theorem GO (jD:Int) (t:Tr) (v:Value) (w:World) (hn:jM w t v) (hsz:t.size≤4096) (hok:JZ t=0→okE (zP t)):Calls prog 11 #[v,.int .i64 jD] w λr w'=>∃v',r=.returned (.tuple #[v',.int .i64 (YB 1048576 jD t).2])∧w'.ownsRow w.heap.size 5 1 v' (YB 1048576 jD t).1.length (Lib.byteCells (YB 1048576 jD t).1)∧jC w w':=by
 have HC:=zh (λw' (hg:jC w w')=>C8 jD 1048576 t v w' (hn.grew hg) hsz hok);obtain⟨k,n,u,s,a4,n4,c4,a5,n5,c5,rfl⟩:=hn.node6;have HGA:=zh ((jC.refl w).alloc (.cells #[.int .i64 k,.int .i64 n,.int .u64 u,.string s,.slice a4 n4 c4,.slice a5 n5 c5] 26));have jK:=qc w (.cells #[.int .i64 k,.int .i64 n,.int .u64 u,.string s,.slice a4 n4 c4,.slice a5 n5 c5] 26);obtain⟨g0,g1,g2,g3,g4,g5⟩:=sqr6 jK;clear hn hok jK hsz;generalize YB 1048576 jD t=R at *;obtain⟨D,E⟩:=R;dsimp only at *;go_enter func11,ntmps11;go_wp2_with fail;generalize w.alloc _=w1 at *;refine (HC.out w1 HGA.out).mono ?_;rintro r w2 ⟨v',rfl,ho,hg⟩;obtain⟨va,vc,rfl,hz1,hz2,hz3⟩:=jR ho;have HO:=zh (qa (JO ho HGA.size) (HGA.trans hg));clear ho hg hz1 hz2 hz3;go_wp2
 go_ret2
 exact⟨_,rfl,HO.1,HO.2⟩
theorem okE_of:∀(m:Nat) (t:Tr) (b:Nat),t.size≤m→t.size≤4096→Y9 b t→smT 1000 t→okE t:=by
 intro m
 induction m with
 | zero=>intro t b h;have:=t.size_pos;omega
 | succ m ih=>
  intro t b h hz hv hs;obtain⟨k,n,u,s,keys,l⟩:=t;obtain⟨_,_,v3,v4,_⟩:=J9 hv;have qG:=valL_iff.1 hv.2.2.2;have hsl:=smL_iff.1 hs.2;simp only[Tr.size] at h hz;have hl:=K7 l;exact⟨⟨by have:=hs.1.1;omega,λq hq=>by have:=hs.1.2 q hq;omega,by omega,λe=>(v4 e).2⟩,okEL_iff.2 λx hx=>ih x (b+1) zp7 zp7 (qG x hx) (hsl x hx)⟩
theorem ok_sort (hs:smT 1000 t) (h:JZ t=0):okE (zP t):=by
 obtain⟨hz,hv⟩:=check_val.1 h;obtain⟨hv2,hz2⟩:=d8 t.size t 0 (zr _) hv;exact okE_of _ _ 0 (zr _) zo hv2 (eQ _ t (zr _) hs)
theorem sm_wide {K L:Nat} (hKL:K≤L):∀(m:Nat) (t:Tr),t.size≤m→smT K t→smT L t:=by
 intro m
 induction m with
 | zero=>intro t h;have:=t.size_pos;omega
 | succ m ih=>
  intro t h hs;obtain⟨k,n,u,s,keys,l⟩:=t;simp only[Tr.size] at h;have hsl:=smL_iff.1 hs.2;exact⟨⟨by have:=hs.1.1;omega,λq hq=>by have:=hs.1.2 q hq;omega⟩,smL_iff.2 λx hx=>ih x zp7 (hsl x hx)⟩
end Go.Proofs.YtdjoffgkndncfaaGreat
namespace Go.Proofs.YtdjoffgkndncfaaGreat
open Go.Proofs.Tryz
open Go Go.ChangeShapes Go.WideShapes Go.ChangeAt Go.RowKit Go.Joins Go.Deep
open Ft (V3 vV okV ValsAt inlineB legalB packF codeF typedF allF oneF fitsF unpackF)
variable {t:Tr}
theorem GP {b:List UInt8} {v:V3} (hb:b.length≤1048576) (h:YF b v t):qM (aQ b v) t=true:=by
 have hn:=h.near hb;have hd:=doc_end hb hn;obtain⟨hw,hf⟩:=Q5 hb hn;have hu:=xP (v:=v) hd.isw hn.1;have hmod:=tK hd.isw b
 have hp0:(b.length:Int)≤(b.length:Int)+j8 b (oneF v.1 v.2.1 v.2.2 b.length 0):=by
  omega
 have hp1:(b.length:Int)+j8 b (oneF v.1 v.2.1 v.2.2 b.length 0)≤9007199254740992:=by
  have h1:=zA hd.isw;rw[cV hd.isw];have:=Int.ediv_mul_le ((b.length:Int)+oneF v.1 v.2.1 v.2.2 b.length 0 - 1) (show oneF v.1 v.2.1 v.2.2 b.length 0≠0 by omega);omega
 have hin:inlineB v.1=true→v.2.1≤oneF v.1 v.2.1 v.2.2 b.length 0:=λhi=>by
  unfold fitsF at hf;rw[zl hi] at hf;simpa using hf
 obtain⟨e,he⟩:∃e,aQ b v=b++e:=⟨_,rfl⟩;have hl:=hd.num;have kE:=hd.len;have htag:=hd.tag;have hwid:=hd.wid;have hwn:=zA hd.isw;have hs:=fZ (lim:=(b.length:Int)+j8 b (oneF v.1 v.2.1 v.2.2 b.length 0)) h hw (by rw[← he,hl];rfl) hin hp0 hp1 hp0;rw[← he] at hs;generalize (b.length:Int)+j8 b (oneF v.1 v.2.1 v.2.2 b.length 0)=p at *;generalize oneF v.1 v.2.1 v.2.2 b.length 0=w at *
 have hlb:QK (aQ b v) 1=w:=by
  unfold QK;rw[hwid];show ((UInt8.ofNat w.toNat).toNat:Int)=w;rw[UInt8.toNat_ofNat'];omega
 have hpos:((aQ b v).length:Int) - 2 - w=p:=by omega
 unfold qM;rw[hlb,hpos,htag];simp only[Option.getD_some,hu,zg,zp];exact⟨by omega,⟨⟨⟨trivial,hw⟩,by omega⟩,hmod⟩,hs⟩
theorem okS_of:∀(m:Nat) (t:Tr) (b:Nat),t.size≤m→t.size≤4096→Y9 b t→smT 1000 t→okS t:=by
 intro m
 induction m with
 | zero=>intro t b h;have:=t.size_pos;omega
 | succ m ih=>
  intro t b h hz hv hs;obtain⟨k,n,u,s,keys,l⟩:=t;obtain⟨_,_,v3,v4,_⟩:=J9 hv;have qG:=valL_iff.1 hv.2.2.2;have hsl:=smL_iff.1 hs.2;simp only[Tr.size] at h hz;have hl:=K7 l;rw[okS];refine⟨hs.1.1,λq hq=>hs.1.2 q hq,?_,by omega,λx hx=>ih x (b+1) zp7 zp7 (qG x hx) (hsl x hx)⟩;by_cases e:k=17
  ·have:=(v4 e).2;omega
  rw[v3 e];exact Nat.zero_le _
theorem NZ (hs:smT 1000 t) (h:JZ t=0):okS (zP t):=by
 obtain⟨hz,hv⟩:=check_val.1 h;obtain⟨hv2,hz2⟩:=d8 t.size t 0 (zr _) hv;exact okS_of _ _ 0 (zr _) zo hv2 (eQ _ t (zr _) hs)
end Go.Proofs.YtdjoffgkndncfaaGreat
namespace Go.Proofs.YtdjoffgkndncfaaGreat
open Go.Proofs.Tryz
open Go Go.ChangeShapes Go.WideShapes Go.ChangeAt Go.RowKit Go.Joins Go.Deep
variable {o:Obj} {w W wr:World} {c k n u:Int} {g pb A kk:Nat} {s:ByteArray} {kv vv:Value} {ts:List Tr} {x:Tr} {vs:List Value} {P3:World→Prop}
def outR (k n u:Int) (s:ByteArray) (kv:Value) (ga:Option Addr) (kk gc:Nat):Obj:=.cells #[.int .i64 k,.int .i64 n,.int .u64 u,.string s,kv,.slice ga kk gc] 26 (0,0)
theorem N0 {o:Oper} {a:Act} {K:Act→World→Prop} {Q:Exit→Act→World→Prop} (w:World) (s x:Operand) (ho:o.op=.call {callee:=.builtin .append,args:=#[s,x],argTypes:=#[24,24]}) (B:Nat) (v:Value) (vs:List Value) (hs:a.eval s=v) (j5:yM w B v vs)
 (g c:Nat) (y:Value) (hx:a.eval x=.slice (some ⟨g,0,none⟩) 1 c) (hg:w.heap[g]? = some (rowN y)) (h6:QV y) (kE:vs.length+1≤1048576) (hB:B≤w.heap.size)
 (h:∀v' w',yM w' B v' (vs++[y])→w.grownBy w' v.ownBlock→yX w v.ownBlock v'.ownBlock→K (a.put o.dst v') w'):o.wp prog a w K Q:=by
 obtain⟨i0,hi,hz0,hz1,hz2⟩:=cJ
 have hnews:∀j u,(vO y)[j]? = some u→w.cell? ((⟨g,0,none⟩:Addr).add j)=some u:=by
  intro j u hj;rw[nY,cell_of_row w g (0+j) _ _ _ hg];simpa using hj
 obtain⟨v',w',hr,h2,h3,h4⟩:=vT (P:=prog) w B 24 o.type 26 i0 zC 6 88 underlying24 hi hz0 hz1 hz2 rfl zd v vs.length _ j5.1 ⟨g,0,none⟩ 1 c (vO y) (by rw[QL h6]) hnews (lM h6) gM zo hB;refine Lib.wp_append_run w s x 24 24 ho v _ hs hx v' w' hr (h v' w' ⟨?_,?_⟩ h3 h4)
 ·rw[zb,yg];simpa using h2
 intro x hx;rcases xf.1 hx with hx|hx
 ·exact j5.2 x hx
 simp at hx;subst hx;exact h6
def Rd (S:Nat→Prop) (w:World) (t:Tr) (v:Value):Prop:=∀w',Moved (λq=>¬S q) w w'→jM w' t v
def RdK (S:Nat→Prop) (w:World) (l:List Tr) (vs:List Value):Prop:=∀w',Moved (λq=>¬S q) w w'→kZ w' l vs
section
variable {S T R:Nat→Prop} {w w' w0:World} {t:Tr} {v:Value} {l:List Tr} {vs:List Value}
theorem Rd.node (h:Rd S w t v):jM w t v:=h w (Moved.refl _ w)
theorem Rd.old (hn:jM w0 t v) (hg:jC w0 w):Rd (λq=>q < w0.heap.size) w t v:=λw' hm=>hn.grew (Moved.fresh hg hm (λq hq=>Nat.not_lt.1 hq))
theorem Rd.kept (h:Rd S w t v) (hm:Moved R w w') (hd:∀q,S q→¬R q):Rd S w' t v:=λw2 h2=>h w2 ((hm.mono (λj _ hj hs=>hd j hs hj)).trans h2 (λ_ _ h=>h))
theorem RdK.kept (h:RdK S w l vs) (hm:Moved R w w') (hd:∀q,S q→¬R q):RdK S w' l vs:=λw2 h2=>h w2 ((hm.mono (λj _ hj hs=>hd j hs hj)).trans h2 (λ_ _ h=>h))
theorem Rd.grew (h:Rd S w t v) (hg:jC w w'):Rd S w' t v:=h.kept (Moved.of_grew (S:=λ_=>False) hg) (λ_ _ h=>h)
theorem Rd.wider (h:Rd S w t v) (hs:∀q,S q→T q):Rd T w t v:=λw2 h2=>h w2 (h2.mono (λj _ hj hs'=>hj (hs j hs')))
theorem RdK.wider (h:RdK S w l vs) (hs:∀q,S q→T q):RdK T w l vs:=λw2 h2=>h w2 (h2.mono (λj _ hj hs'=>hj (hs j hs')))
theorem RdK.snoc (h:RdK S w l vs) (g:Rd S w t v):RdK S w (l++[t]) (vs++[v]):=λw' hm=>(h w' hm).snoc (g w' hm)
theorem RdK.length (h:RdK S w l vs):vs.length=l.length:=(h w (Moved.refl _ w)).length
end
def aY (c:Int):Obj:=.cells #[.int .i64 c] 3 (0,0)
theorem A1 {b:Nat} (h:w.heap[b]? = some (aY c)) (d:Int):(w.setCell ⟨b,0,none⟩ (.int .i64 d)).heap[b]? = some (aY d):=by
 have:=heap_setCell_same w b 0 _ _ (.int .i64 d) h;simpa [aY] using this
def LdI (W wr:World) (g pb A:Nat) (k n u:Int) (s:ByteArray) (kv:Value) (ts:List Tr) (kk:Nat) (c:Int):Prop:=
 ∃ga gc vs S,wr.heap[g]? = some (outR k n u s kv ga kk gc)∧yM wr W.heap.size (.slice ga kk gc) vs∧RdK S wr ts vs∧(∀q,S q→(q < A∨(W.heap.size≤q∧q < wr.heap.size))∧(Value.slice ga kk gc).ownBlock≠some q)∧Moved (λq=>q=g∨q=pb) W wr∧wr.heap[pb]? = some (aY c)
theorem LdI.grew {wr':World} (h:LdI W wr g pb A k n u s kv ts kk c) (hg:jC wr wr'):LdI W wr' g pb A k n u s kv ts kk c:=by
 obtain⟨ga,gc,vs,S,h1,h2,h3,h4,h5,h6⟩:=h;exact⟨ga,gc,vs,S,hg.heap h1,h2.grew hg,h3.kept (Moved.of_grew (S:=λ_=>False) hg) (λ_ _ h=>h),λq hq=>⟨(h4 q hq).1.imp id (λh=>⟨h.1,qk h.2 hg.size⟩),(h4 q hq).2⟩,h5.grew hg,hg.heap h6⟩
theorem LdI.step {wa w5:World} {xv:Value} {ga va:Option Addr} {gc vc:Nat} {S Sx:Nat→Prop} (hgW:g < W.heap.size) (hpW:pb < W.heap.size) (hAg:A≤g) (hAp:A≤pb) (hgp:g≠pb)
 (h0:wr.heap[g]? = some (outR k n u s kv ga kk gc)) (h1:yM wr W.heap.size (.slice ga kk gc) vs) (h2:RdK S wr ts vs) (h3:∀q,S q→(q < A∨(W.heap.size≤q∧q < wr.heap.size))∧(Value.slice ga kk gc).ownBlock≠some q) (h4:Moved (λq=>q=g∨q=pb) W wr)
 (hm:Moved (λq=>q=pb) wr wa) (hx:Rd Sx wa x xv) (hSx:∀q,Sx q→q < A∨(wr.heap.size≤q∧q < wa.heap.size)) (hc:wa.heap[pb]? = some (aY c))
 (j5:yM w5 W.heap.size (.slice va (kk+1) vc) (vs++[xv])) (hm3:Moved (λk=>some k=(Value.slice ga kk gc).ownBlock) wa w5) (hn:yX wa (Value.slice ga kk gc).ownBlock (Value.slice va (kk+1) vc).ownBlock) :
 LdI W (w5.setCell ⟨g,5,none⟩ (.slice va (kk+1) vc)) g pb A k n u s kv (ts++[x]) (kk+1) c:=by
 have hm4:Moved (λk=>k=g) w5 (w5.setCell ⟨g,5,none⟩ (.slice va (kk+1) vc)):=zZ w5 g 5 _;have hlt:∀q,(Value.slice ga kk gc).ownBlock=some q→W.heap.size≤q∧q < wr.heap.size:=λq hq=>qm h1.1 q hq;have hs2:=hm.size;have hs3:=hm3.size;have hs4:=hm4.size;have hWr:=h4.size;have hAW:A≤W.heap.size:=by omega
 have hg5:=hm3.heap (hm.heap h0 hgp) (λe=>by have:=hlt g e.symm;omega);have k1:RdK S (w5.setCell ⟨g,5,none⟩ (.slice va (kk+1) vc)) ts vs:=((h2.kept hm (λq hq e=>by have:=(h3 q hq).1;omega)).kept hm3 (λq hq e=>(h3 q hq).2 e.symm)).kept hm4 (λq hq e=>by have:=(h3 q hq).1;omega);have k2:Rd Sx (w5.setCell ⟨g,5,none⟩ (.slice va (kk+1) vc)) x xv:=(hx.kept hm3 (λq hq e=>by have:=hlt q e.symm;have:=hSx q hq;omega)).kept hm4 (λq hq e=>by have:=hSx q hq;omega);have hrw:=heap_setCell_same w5 g 5 _ _ (.slice va (kk+1) vc) hg5;refine⟨va,vc,vs++[xv],λq=>S q∨Sx q,by simpa [outR] using hrw,⟨Moved.owns hm4 j5.1 (λq hq e=>by have:=qm j5.1 q hq;omega),j5.2⟩,(k1.wider (λ_ h=>.inl h)).snoc (k2.wider (λ_ h=>.inr h)),λq hq=>?_,?_,?_⟩
 ·have hb:q < A∨(W.heap.size≤q∧q < wa.heap.size):=by
   rcases hq with hq|hq
   ·have:=(h3 q hq).1;omega
   have:=hSx q hq;omega
  refine⟨by omega,λe=>?_⟩;have:=qm j5.1 q e;rcases hn q e with e|e
  ·rcases hq with hq|hq
   ·exact (h3 q hq).2 e
   have:=hlt q e;have:=hSx q hq;omega
  omega
 ·exact ((h4.trans hm (λj _ e=>.inr e)).trans hm3 (λj hj e=>by have:=hlt j e.symm;omega)).trans hm4 (λj _ e=>.inl e)
 exact hm4.heap (hm3.heap hc (λe=>by have:=hlt pb e.symm;omega)) (λe=>hgp e.symm)
def LdW (wr:World) (pb:Nat) (o:Obj) (vv:Value) (P3:World→Prop):Nat→World→Prop
 | 0,w=>jC wr w
 | 1,w=>Moved (λq=>q=pb) wr w∧w.heap[pb]? = some o
 | 2,w=>Moved (λq=>q=pb∨some q=vv.ownBlock) wr w∧w.heap[pb]? = some o
 | _+3,w=>P3 w
theorem LdW.grew (h2:∀w w',jC w w'→P3 w→P3 w'):∀(p:Nat) (w w':World),jC w w'→LdW wr pb o vv P3 p w→LdW wr pb o vv P3 p w'
 | 0,_,_,hg,h=>jC.trans h hg
 | 1,_,_,hg,h=>⟨Moved.grew h.1 hg,hg.heap h.2⟩
 | 2,_,_,hg,h=>⟨Moved.grew h.1 hg,hg.heap h.2⟩
 | _+3,_,_,hg,h=>h2 _ _ hg h
theorem LdW.old {p:Nat} (h:LdW wr pb o vv P3 p w) (hp:p≤1) {k:Nat} {o':Obj} (ho:wr.heap[k]? = some o') (hne:k≠pb):w.heap[k]? = some o':=by
 match p,h,hp with
 | 0,h,_=>exact jC.heap h ho
 | 1,h,_=>exact Moved.heap h.1 ho hne
def InP (P:Value→World→Prop) (m:Nat) (p:Nat) (v:Value) (w:World):Prop:=if p < m then False else if p=m then P v w else True
theorem InP.st {P:Value→World→Prop} {m:Nat} (h:∀v w w',jC w w'→P v w→P v w'):(∀p v w w',(λ(_:Nat) w w'=>jC w w') p w w'→InP P m p v w→InP P m p v w')∧∀p v w w',(λ_ _ _=>True:Nat→World→World→Prop) p w w'→InP P m p v w→InP P m (p+1) v w':=by
 refine⟨λp v w w' hg=>?_,λp v w w' _=>?_⟩
 ·unfold InP;split
  ·exact id
  split
  ·exact h v w w' hg
  exact id
 unfold InP;by_cases h1:p < m
 ·rw[zl h1];exact λh=>h.elim
 rw[ze (by omega:¬p+1 < m),ze (by omega:¬p+1=m)];exact λ_=>trivial
def LdX (wr:World) (A:Nat) (x:Tr) (v:Value) (w:World):Prop:=∃Sx,Rd Sx w x v∧∀q,Sx q→q < A∨(wr.heap.size≤q∧q < w.heap.size)
def LdY (wr:World) (A:Nat) (x:Tr) (v:Value) (w:World):Prop:=∃h xv Sx,v=.slice (some ⟨h,0,none⟩) 1 1∧w.heap[h]? = some (rowN xv)∧Rd Sx w x xv∧∀q,Sx q→q < A∨(wr.heap.size≤q∧q < w.heap.size)
def LdZ (W wr:World) (A pb:Nat) (o:Obj) (vv:Value) (vs:List Value) (x:Tr) (v:Value) (w:World):Prop:=∃xv Sx wa,Moved (λq=>q=pb) wr wa∧Rd Sx wa x xv∧(∀q,Sx q→q < A∨(wr.heap.size≤q∧q < wa.heap.size))∧wa.heap[pb]? = some o∧yM w W.heap.size v (vs++[xv])∧Moved (λk=>some k=vv.ownBlock) wa w∧yX wa vv.ownBlock v.ownBlock
theorem LdX.grew (v:Value) (w w':World) (hg:jC w w') (h:LdX wr A x v w):LdX wr A x v w':=by
 obtain⟨Sx,h,hb⟩:=h;exact⟨Sx,h.grew hg,λq hq=>(hb q hq).imp id (λh=>⟨h.1,qk h.2 hg.size⟩)⟩
theorem LdY.grew (v:Value) (w w':World) (hg:jC w w') (h:LdY wr A x v w):LdY wr A x v w':=by
 obtain⟨h',xv,Sx,e,hr,h,hb⟩:=h;exact⟨h',xv,Sx,e,hg.heap hr,h.grew hg,λq hq=>(hb q hq).imp id (λh=>⟨h.1,qk h.2 hg.size⟩)⟩
theorem LdZ.grew (v:Value) (w w':World) (hg:jC w w') (h:LdZ W wr A pb o vv vs x v w):LdZ W wr A pb o vv vs x v w':=by
 obtain⟨xv,Sx,wa,h1,h2,h3,h4,h5,h6,h7⟩:=h;exact⟨xv,Sx,wa,h1,h2,h3,h4,h5.grew hg,h6.grew hg,h7⟩
theorem N1 (x:Tr) (xv:Value) (w0:World) (pb:Nat) (hx:jM w0 x xv) (hp0:w0.heap.size≤pb):∀(m:Nat) (t:Tr),t.size≤m→∀(c:Int) (v:Value) (w:World),jM w0 t v→Few t→jC w0 w→0≤c→c≤1099511627776→w.heap[pb]? = some (aY c) →
 Calls prog 33 #[v,.pointer (some ⟨pb,0,none⟩),xv] w λr w'=>∃v',r=.returned v'∧Rd (λq=>q < w0.heap.size∨JB w w' q) w' (yQ x t c).1 v'∧Moved (λq=>q=pb) w w'∧w'.heap[pb]? = some (aY (yQ x t c).2):=by
 intro m
 induction m with
 | zero=>intro t ht;have:=t.size_pos;omega
 | succ m ih=>
 intro t ht c v w hn hf hg0 hc0 hc1 hcb;obtain⟨k,n,u,s,keys,l⟩:=t;simp only[jM] at hn;obtain⟨hb,kv,lv,vs,rfl,hks,yU,zN⟩:=hn;simp only[Few] at hf;obtain⟨hf1,hf2,hf3⟩:=hf;have hkl:vs.length=l.length:=zN.length;have HKS0:=zh hks;have HK:=zh zN;have HF3:=zh hf3;have HB:=zh hb;have HF1:Hid (keys.length≤4096):=hf1;have HF2:Hid (l.length≤4096):=hf2
 have hkz:Hid (∀x∈keys,kI x.size):=λx hx=>by
  obtain⟨_,_,_,_,_,_,h⟩:=HKS0.out;obtain⟨i,hi,rfl⟩:=List.mem_iff_getElem.1 hx;exact (h i _ (za hi)).1
 obtain⟨a4,c4,rfl,hx1,hx2,hx3,hx4⟩:=hks;clear hx1 hx2 hx3 hx4;have kU:=zh yU;obtain⟨a5,c5,rfl,hx1,hc5,hx3,hx4⟩:=yU;clear hx1 hx3 hx4;rw[hkl] at kU⊢;have HSZ:Hid (∀x∈l,x.size≤m):=λx hx=>by have:=JC hx;simp only[Tr.size] at ht;omega
 have HX0:=zh hx;obtain⟨zkk,zn,zu,zs,za4,zn4,zc4,za5,zn5,zc5,rfl⟩:=hx.node6;have HP0:Hid (w0.heap.size≤pb):=hp0;have HC:=zh (qa hc0 hc1);have HG0:=zh hg0;have HCB:=zh hcb;have HPW:Hid (pb < w.heap.size):=(zc.1 hcb).1;have HIH:=zh ih;clear ih zN hf3 hb ht hkl hc5 hx hg0 hcb;go_enter func33,ntmps33;go_upto_region 1 with fail;obtain⟨hb1,hg1⟩:=sqal w (.cells #[.int .i64 k,.int .i64 n,.int .u64 u,.string s,.slice a4 keys.length c4,.slice a5 l.length c5] 26);have hs1:(w.alloc (.cells #[.int .i64 k,.int .i64 n,.int .u64 u,.string s,.slice a4 keys.length c4,.slice a5 l.length c5] 26)).heap.size=w.heap.size+1:=zm _ _;generalize w.alloc _=w1 at *;obtain⟨hb2,hg2⟩:=sqal w1 (.cells #[.int .i64 zkk,.int .i64 zn,.int .u64 zu,.string zs,.slice za4 zn4 zc4,.slice za5 zn5 zc5] 26);have hs2:(w1.alloc (.cells #[.int .i64 zkk,.int .i64 zn,.int .u64 zu,.string zs,.slice za4 zn4 zc4,.slice za5 zn5 zc5] 26)).heap.size=w1.heap.size+1:=zm _ _;rw[hs1] at hb2 hs2;generalize w1.alloc _=w2 at *;obtain⟨hb3,hg3⟩:=sqal w2 (.cells #[.int .i64 0,.int .i64 0,.int .u64 0,.string ⟨#[]⟩,.slice none 0 0,.slice none 0 0] 26);have hs3:(w2.alloc (.cells #[.int .i64 0,.int .i64 0,.int .u64 0,.string ⟨#[]⟩,.slice none 0 0,.slice none 0 0] 26)).heap.size=w2.heap.size+1:=zm _ _;rw[hs2] at hb3 hs3;generalize w2.alloc _=w3 at *;replace hb1:=(hg2.trans hg3).heap hb1;replace hb2:=hg3.heap hb2;have hG:=(hg1.trans hg2).trans hg3;obtain⟨N,hN⟩:∃N,w.heap.size=N:=⟨_,rfl⟩;rw[hN] at hb1 hb2 hb3 hs3 HPW⊢;have e2:N+1+1=N+2:=rfl;rw[e2] at hb3 hs3⊢;clear e2;have hs3':w3.heap.size=N+3:=by omega
 have HN:=zh hN;have HBa:=zh hb1;have HBb:=zh hb2;have HBc:=zh hb3;have HGa:=zh hG;have HSa:=zh hs3';have HCa:=zh (hG.heap HCB.out);clear hb1 hb2 hb3 hG hs1 hs2 hs3 hs3' hg1 hg2 hg3 hN;have cp:=jA HCa.out 0 _ rfl;have fp:=jE HCa.out 0;by_cases hc:c=0
 ·subst hc;obtain⟨x0,x1,x2,x3,x4,x5⟩:=sqr6 HBb;obtain⟨z0,z1,z2,z3,z4,z5⟩:=sqr6 HBc;have r0:=jE HBc.out 0;have r1:=jE HBc.out 1;have r2:=jE HBc.out 2;have r3:=jE HBc.out 3;have r4:=jE HBc.out 4;have r5:=jE HBc.out 5;have hne:¬pb=N+1:=by have:=HPW.out;omega
  have hne1:¬N+1=pb:=by omega
  have hne2:¬pb=N+2:=by have:=HPW.out;omega
  have hne3:¬N+2=pb:=by omega
  have HFIN:Hid (Rd (λq=>q < w0.heap.size∨JB w (kW (w3.setCell ⟨pb,0,none⟩ (.int .i64 (-1))) (N+2) (.int .i64 zkk) (.int .i64 zn) (.int .u64 zu) (.string zs) (.slice za4 zn4 zc4) (.slice za5 zn5 zc5)) q) (kW (w3.setCell ⟨pb,0,none⟩ (.int .i64 (-1))) (N+2) (.int .i64 zkk) (.int .i64 zn) (.int .u64 zu) (.string zs) (.slice za4 zn4 zc4) (.slice za5 zn5 zc5)) x (.agg #[.int .i64 zkk,.int .i64 zn,.int .u64 zu,.string zs,.slice za4 zn4 zc4,.slice za5 zn5 zc5])∧Moved (λq=>q=pb) w (kW (w3.setCell ⟨pb,0,none⟩ (.int .i64 (-1))) (N+2) (.int .i64 zkk) (.int .i64 zn) (.int .u64 zu) (.string zs) (.slice za4 zn4 zc4) (.slice za5 zn5 zc5))∧(kW (w3.setCell ⟨pb,0,none⟩ (.int .i64 (-1))) (N+2) (.int .i64 zkk) (.int .i64 zn) (.int .u64 zu) (.string zs) (.slice za4 zn4 zc4) (.slice za5 zn5 zc5)).heap[pb]? = some (aY (-1))):=by
   have h1:=HN.out;have h2:=HPW.out;have h3:=HP0.out;have hM:Moved (λq=>q=pb) w3 (w3.setCell ⟨pb,0,none⟩ (.int .i64 (-1))):=zZ w3 pb 0 _;have hT:=yJ (w3.setCell ⟨pb,0,none⟩ (.int .i64 (-1))) (N+2) (.int .i64 zkk) (.int .i64 zn) (.int .u64 zu) (.string zs) (.slice za4 zn4 zc4) (.slice za5 zn5 zc5);have hA:Moved (λq=>q=pb) w (kW (w3.setCell ⟨pb,0,none⟩ (.int .i64 (-1))) (N+2) (.int .i64 zkk) (.int .i64 zn) (.int .u64 zu) (.string zs) (.slice za4 zn4 zc4) (.slice za5 zn5 zc5)):=((Moved.of_grew HGa.out).trans' hM).trans hT (λj hj e=>by omega);refine⟨(Rd.old HX0.out (Moved.fresh HG0.out hA (λq e=>by omega))).wider (λ_ h=>.inl h),hA,?_⟩;exact hT.heap (A1 HCa.out (-1)) zo
  clear HIH HK HF3 HSZ HKS0 hkz kU HX0 HG0;go_wp2_with fail;refine bodyPost_ret (v:=.agg #[.int .i64 zkk,.int .i64 zn,.int .u64 zu,.string zs,.slice za4 zn4 zc4,.slice za5 zn5 zc5]) (by simp[results,results33,go_sem,z0,z1,z2,z3,z4,z5,hne,hne1,hne2,hne3]) rfl ?_;exact⟨_,rfl,by simpa [yQ] using HFIN.1,HFIN.2.1,by simpa [yQ] using HFIN.2.2⟩
 have hcb:(c == 0)=false:=by simpa using hc
 obtain⟨d,hd⟩:∃d,c - 1=d:=⟨_,rfl⟩;have hwc:IntKind.i64.wrap (c - 1)=d:=by rw[zy];have:=HC.out;omega
 have HT:Hid (yQ x (.mk k n u s keys l) c=(.mk k n u s keys (z7 x l d).1,(z7 x l d).2)):=by show _=_;rw[yQ,ze hc,hd]
 have HD:Hid (0≤d∧d≤1099511627776):=by have:=HC.out;exact⟨by omega,by omega⟩
 have hM:Moved (λq=>q=pb) w3 (w3.setCell ⟨pb,0,none⟩ (.int .i64 d)):=zZ w3 pb 0 _;have HCd:Hid ((w3.setCell ⟨pb,0,none⟩ (.int .i64 d)).heap[pb]? = some (aY d)):=A1 HCa.out d;have hpn:=HPW.out;have HB1:Hid ((w3.setCell ⟨pb,0,none⟩ (.int .i64 d)).heap[N]? = _):=hM.heap HBa.out zo;have HB2:Hid ((w3.setCell ⟨pb,0,none⟩ (.int .i64 d)).heap[N+1]? = _):=hM.heap HBb.out zo;have HB3:Hid ((w3.setCell ⟨pb,0,none⟩ (.int .i64 d)).heap[N+2]? = _):=hM.heap HBc.out zo;have HS2:Hid ((w3.setCell ⟨pb,0,none⟩ (.int .i64 d)).heap.size=N+3):=by show _=_;simpa [World.setCell] using HSa.out
 have HMd:Hid (Moved (λq=>q=pb) w (w3.setCell ⟨pb,0,none⟩ (.int .i64 d))):=(Moved.of_grew HGa.out).trans' hM;clear hpn hM HBa HBb HBc HGa HSa HCa hc hd;go_wp2_with fail;clear cp fp hcb hwc;generalize w3.setCell ⟨pb,0,none⟩ (.int .i64 d)=w2 at *;have hB2:Hid (N+3≤w2.heap.size):=by show _≤_;rw[HS2];exact zr _
 have HG02:Hid (jC w0 w2):=Moved.fresh HG0.out HMd.out (λq e=>by have:=HP0.out;omega);have HKS:=zh (HKS0.grew HG02.out);have HG:Hid (jC w2 w2):=jC.refl w2;obtain⟨c0,c1,c2,c3⟩:=sqr4 HB1;have c4':=jA HB1.out 4 _ rfl;have hf1:=HF1.out;refine vG jC [[],[0],[],[2],[],[4],[],[6],[],[8],[9],[1,3,5,7,10],[],[11,12]] [[(24,2),(25,3),(26,4),(27,5),(28,6),(29,7),(30,8),(31,9),(32,10),(33,11),(7,12)],[(22,0),(24,2),(25,3),(26,4),(27,5),(28,6),(29,7),(30,8),(31,9),(32,10),(7,12)],[(22,0),(23,1),(26,4),(27,5),(28,6),(29,7),(30,8),(31,9),(32,10),(33,11),(7,12)],[(22,0),(23,1),(24,2),(26,4),(27,5),(28,6),(29,7),(30,8),(31,9),(32,10),(7,12)],[(22,0),(23,1),(24,2),(25,3),(28,6),(29,7),(30,8),(31,9),(32,10),(33,11),(7,12)],[(22,0),(23,1),(24,2),(25,3),(26,4),(28,6),(29,7),(30,8),(31,9),(32,10),(7,12)],[(22,0),(23,1),(24,2),(25,3),(26,4),(27,5),(30,8),(31,9),(32,10),(33,11),(7,12)],[(22,0),(23,1),(24,2),(25,3),(26,4),(27,5),(28,6),(30,8),(31,9),(32,10),(7,12)],[(22,0),(23,1),(24,2),(25,3),(26,4),(27,5),(28,6),(29,7),(32,10),(33,11),(7,12)],[(22,0),(23,1),(24,2),(25,3),(26,4),(27,5),(28,6),(29,7),(30,8),(33,11),(7,12)],[(22,0),(23,1),(24,2),(25,3),(26,4),(27,5),(28,6),(29,7),(30,8),(31,9),(7,12)],[(22,0),(23,1),(24,2),(25,3),(26,4),(27,5),(28,6),(29,7),(30,8),(31,9),(32,10),(7,12)],[(22,0),(23,1),(24,2),(25,3),(26,4),(27,5),(28,6),(29,7),(30,8),(31,9),(32,10),(33,11)],[(22,0),(23,1),(24,2),(25,3),(26,4),(27,5),(28,6),(29,7),(30,8),(31,9),(32,10),(33,11),(7,12)]]
  [Is (.pointer (some ⟨N,0,none⟩)),Is (.int .i64 k),Is (.pointer (some ⟨N,1,none⟩)),Is (.int .i64 n),Is (.pointer (some ⟨N,2,none⟩)),Is (.int .u64 u),Is (.pointer (some ⟨N,3,none⟩)),Is (.string s),Is (.pointer (some ⟨N,4,none⟩)),Is (.slice a4 keys.length c4),λv w=>zG w (N+3) v keys,λv w=>∃kv',v=.agg #[.int .i64 k,.int .i64 n,.int .u64 u,.string s,kv',.slice none 0 0]∧zG w (N+3) kv' keys,λv w=>∃g,v=.pointer (some ⟨g,0,none⟩)∧(N+3)≤g∧w.heap[g]? = some (.cells #[.int .i64 0,.int .i64 0,.int .u64 0,.string ⟨#[]⟩,.slice none 0 0,.slice none 0 0] 26 (0,0))]
  zk jC.trans jC.refl (jC.refl _).drew zk ⟨jJ,jJ,jJ,jJ,jJ,jJ,jJ,jJ,jJ,jJ,λ_ _ _ hg h=>zG.grew h hg,λ_ _ _ hg h=>h.elim λq h=>⟨q,h.1,zG.grew h.2 hg⟩,λ_ _ _ hg h=>h.elim λq h=>⟨q,h.1,h.2.1,hg.heap h.2.2⟩,trivial⟩ rfl ⟨?_,?_,?_,?_,?_,?_,?_,?_,?_,?_,?_,?_,?_,trivial⟩ ?_ rfl
 ·exact VW
 ·exact oM
 ·exact VW
 ·exact oM
 ·exact VW
 ·exact oM
 ·exact VW
 ·exact oM
 ·exact VW
 ·exact oM
 ·exact zb20
 ·exact zb21
 ·exact zb22
 intro y w2' hG hF K hK;simp only[zV,Is,and_true,Nat.reduceAdd] at hF;have h10:=hF.2.2.2.2.2.2.2.2.2.2.1;have h11:=hF.2.2.2.2.2.2.2.2.2.2.2.1;have h12:=hF.2.2.2.2.2.2.2.2.2.2.2.2;simp only[JS];simp only[jF,Act.put,zq,Is] at hK⊢;simp only[hF];clear hF;refine jN ?_;refine Exists.elim h11 λkv' h=>?_;have hs11:=h.1;have hkv:=h.2;refine Exists.elim (jR hkv) λva h=>Exists.elim h λvc h=>?_;have hs:=h.1;rw[hs] at hkv hs11;clear h h11 hs h10;refine Exists.elim h12 λg h=>?_;have hs12:=h.1;have hgB:=h.2.1;have jK:=h.2.2;clear h h12;rw[hs11,hs12];clear hs11 hs12;have f0:=jE jK 0;have f1:=jE jK 1;have f2:=jE jK 2;have f3:=jE jK 3;have f4:=jE jK 4;have f5:=jE jK 5;have d0:=jA jK 0 _ rfl;have d1:=jA jK 1 _ rfl;have d2:=jA jK 2 _ rfl;have d3:=jA jK 3 _ rfl;have d4:=jA jK 4 _ rfl;have d5:=jA jK 5 _ rfl;have hrow2:=Z3 jK (.int .i64 k) (.int .i64 n) (.int .u64 u) (.string s) (.slice va keys.length vc) (.slice none 0 0);have hmv:=yJ w2' g (.int .i64 k) (.int .i64 n) (.int .u64 u) (.string s) (.slice va keys.length vc) (.slice none 0 0);have hkv2:zG _ (N+3) (.slice va keys.length vc) keys:=Moved.owns hmv hkv (λq hq e=>KU hkv jK zd (by rw[hq,e]));have hgr:=Moved.fresh hG hmv (λq e=>by have:=HS2.out;omega);clear hG jK hmv hkv;go_simp;refine hK _ _ ?_;clear f0 f1 f2 f3 f4 f5 d0 d1 d2 d3 d4 d5 hK;generalize ((((((w2'.setCell ⟨g,0,none⟩ (.int .i64 k)).setCell ⟨g,1,none⟩ (.int .i64 n)).setCell ⟨g,2,none⟩ (.int .u64 u)).setCell ⟨g,3,none⟩ (.string s)).setCell ⟨g,4,none⟩ (.slice va keys.length vc)).setCell ⟨g,5,none⟩ (.slice none 0 0))=w3 at *;have KP:=zh hrow2;have HKV:=zh hkv2;have HB1':=zh (hgr.heap HB1.out);have HB2':=zh (hgr.heap HB2.out);have HG3:=zh (HG.trans hgr);clear hrow2 hkv2 HB1 HB2 HG c0 c1 c2 c3 c4';have hgN:Hid (N+3≤g):=hgB;clear hgB;have HCB3:Hid (w3.heap[pb]? = some (aY d)):=HG3.heap HCd.out;have HR3:Hid (w3.heap[N+2]? = _):=HG3.heap HB3.out;have HM3:Hid (Moved (λq=>q=pb) w w3):=HMd.grew HG3.out;have HROW3:Hid (w3.heap[g]? = some (outR k n u s (.slice va keys.length vc) none 0 0)):=KP.out;generalize y 10=y10;go_wp2_with fail;clear KP HG3
 go_loopw [8] (λi wr=>∃kk:Nat,kk≤l.length∧i=.int .i64 kk∧Hid (LdI w3 wr g pb w0.heap.size k n u s (.slice va keys.length vc) (z7 x (l.take kk) d).1 kk (z7 x (l.take kk) d).2)) (λi _=>l.length - (intOf i).toNat)
 case atStart=>exact⟨0,Nat.zero_le _,rfl,none,0,[],λ_=>False,HROW3.out,yM.nil _ _,by intro w' _;rw[List.take_zero];rfl,λ_ h=>h.elim,Moved.refl _ _,by simpa [z7] using HCB3.out⟩
 case round=>
  obtain⟨kk,hkk,rfl,HW⟩:=hrel;obtain⟨ga,gc,vs4,S4,q0,q1,q2,q3,q4,q5⟩:=HW.out;have HGW:Hid (g < w3.heap.size):=(zc.1 HROW3.out).1;have HPW3:Hid (pb < w3.heap.size):=(zc.1 HCB3.out).1;have HMR:Hid (Moved (λq=>q=pb) w wr):=HM3.trans q4 (λj hj e=>by have:=hgN.out;have:=HN.out;omega);have HG0R:Hid (jC w0 wr):=Moved.fresh HG0.out HMR.out (λq e=>by have:=HP0.out;omega);have HROWG:=zh q0;have HQ1:=zh q1;have HQ2:=zh q2;have HQ3:=zh q3;have HQ4:=zh q4;have HBX:Hid (wr.heap[N]? = _):=Moved.heap q4 HB1'.out (λe=>by have:=hgN.out;have:=HPW.out;omega);have HXX:Hid (wr.heap[N+1]? = _):=Moved.heap q4 HB2'.out (λe=>by have:=hgN.out;have:=HPW.out;omega);have HRX:Hid (wr.heap[N+2]? = _):=Moved.heap q4 HR3.out (λe=>by have:=hgN.out;have:=HPW.out;omega);have hgp:g≠pb:=by have:=hgN.out;have:=HPW.out;omega
  have hpg:pb≠g:=λe=>hgp e.symm;have b5:=jA HBX.out 5 _ rfl;obtain⟨cc,hcc⟩:∃cc,(z7 x (l.take kk) d).2=cc:=⟨_,rfl⟩;have HCBR:Hid (wr.heap[pb]? = some (aY cc)):=by rw[← hcc];exact q5
  have cp:=jA HCBR.out 0 _ rfl;clear q0 q1 q2 q3 q4 q5 HW;by_cases hlt:kk < l.length
  ·have hlti:(kk:Int) < l.length:=(by omega);obtain⟨t,ht⟩:∃t,l[kk]? = some t:=⟨_,za hlt⟩;obtain⟨tv,htv,hnt⟩:=HK.get ht;have htm:t∈l:=qd ht;have HFX:=zh (HF3.mem htm);have HXS:=zh (HSZ.out t htm);have HNT:=zh hnt
   obtain⟨bb,off,rfl,kM⟩:∃bb off,a5=some ⟨bb,off,none⟩∧yO wr bb (off+kk*6) tv:=by
    obtain⟨a,c,e,_,_,_,h⟩:=kU.out;injection e with e1 e2 e3;subst e1;obtain⟨b,off,e,h6⟩:=h kk tv htv;exact⟨b,off,e,h6.grew HG0R.out⟩
   obtain⟨xk,xn,xu,xs,xa4,xn4,xc4,xa5,xn5,xc5,rfl⟩:=hnt.node6;obtain⟨e0,e1,e2,e3,e4,e5⟩:=kM.get
   have HX:Hid (z7 x (l.take (kk+1)) d=((z7 x (l.take kk) d).1++[if cc < 0 then t else (yQ x t cc).1],if cc < 0 then cc else (yQ x t cc).2)):=by
    show _=_;rw[qo,ht];show z7 x (l.take kk++[t]) d=_;rw[dH,hcc]
   have HCC:Hid (cc≤1099511627776):=(by show _≤_;rw[← hcc];have:=eU x (l.take kk) d (by have:=HD.out;omega);have:=HD.out;omega);have HL4:Hid (vs4.length=kk):=(by show _=_;rw[HQ2.length,eT,qr];omega);have HGL:Hid (∀e,(Value.slice ga kk gc).ownBlock=some e→e≠g):=λe he=>by have:=qm HQ1.1 e he;have:=HGW.out;omega
   have HCL:Hid (∀e,(Value.slice ga kk gc).ownBlock=some e→e≠pb):=λe he=>by have:=qm HQ1.1 e he;have:=HPW3.out;omega
   have HAg:Hid (w0.heap.size≤g):=(by show _≤_;have:=hgN.out;have:=HPW.out;have:=HP0.out;omega);have r5:=jA HROWG.out 5 _ rfl;clear kM ht htv hnt htm hcc;by_cases hneg:cc < 0
   ·go_wp2_with fail;refine zM jC 8 [[],[0],[],[2],[],[2,3,4],[2,3,4,5],[2,3,4,5,6],[0,1,2,3,4,5,6,7],[0,1,2,3,4,5,6,7,8],[0,1,2,3,4,5,6,7,8,9]] [[(47,2),(48,3),(49,4),(50,5),(51,6),(52,7)],[(45,0),(47,2),(48,3),(49,4),(50,5),(51,6),(52,7)],[(45,0),(46,1),(49,4)],[(45,0),(46,1),(47,2),(49,4)],[(45,0),(46,1),(47,2),(48,3)],[(45,0),(46,1),(47,2),(48,3),(49,4)],[(45,0),(46,1),(47,2),(48,3),(49,4),(50,5)],[(45,0),(46,1),(47,2),(48,3),(49,4),(50,5),(51,6)],[(45,0),(46,1),(47,2),(48,3),(49,4),(50,5),(51,6),(52,7)],[(45,0),(46,1),(47,2),(48,3),(49,4),(50,5),(51,6),(52,7),(53,8)],[(45,0),(46,1),(47,2),(48,3),(49,4),(50,5),(51,6),(52,7),(53,8),(54,9)]] [(45,0),(46,1),(47,2),(48,3),(49,4),(50,5),(51,6),(52,7)]
     [Is (.pointer (some ⟨g,5,none⟩)),Is (.slice ga kk gc),Is (.pointer (some ⟨N,5,none⟩)),Is (.slice (some ⟨bb,off,none⟩) l.length c5),Is (.int .i64 (kk:Int)),Is (.pointer (some ⟨bb,off+kk*6,none⟩)),Is (.agg #[.int .i64 xk,.int .i64 xn,.int .u64 xu,.string xs,.slice xa4 xn4 xc4,.slice xa5 xn5 xc5]),λv w=>∃h,v=.slice (some ⟨h,0,none⟩) 1 1∧w.heap[h]? = some (rowN (.agg #[.int .i64 xk,.int .i64 xn,.int .u64 xu,.string xs,.slice xa4 xn4 xc4,.slice xa5 xn5 xc5]))]
     zk jC.trans jC.refl (jC.refl _).drew zk ⟨jJ,jJ,jJ,jJ,jJ,jJ,jJ,λv w w' hg ⟨h',e,hr⟩=>⟨h',e,hg.heap hr⟩,trivial⟩ rfl ?_ ?_
    rotate_left
    ·intro y w2 hG hF;simp only[zV,Is,and_true,Nat.reduceAdd] at hF;have h7:=hF.2.2.2.2.2.2.2;simp only[jF,Act.put,zq,List.drop_succ_cons,List.drop_zero];simp only[hF];clear hF;obtain⟨h,hs7,hrh⟩:=h7;rw[hs7];clear hs7;refine vH rfl _ _ rfl w3.heap.size _ vs4 rfl (HQ1.grew hG) h 1 _ rfl hrh ⟨_,_,_,_,_,_,_,_,_,_,rfl⟩ (by have:=HL4.out;have:=HF2.out;omega) (zf HQ4.size hG.size) ?_;intro v' w5 hown5 hgr5 hnx5;obtain⟨va2,vc2,hv5,_,_,_⟩:=jR hown5.1;rw[zb,HL4] at hv5;simp only[zz,qg,Nat.zero_add] at hv5;rw[hv5] at hown5 hnx5⊢;have hrow5:=(Moved.of_grown hgr5).heap (hG.heap HROWG.out) (λe=>HGL.out g e.symm rfl);have hf5:=jE hrow5 5;have hc5:=jA hrow5 5 _ rfl
     have HREL:Hid (LdI w3 (w5.setCell ⟨g,5,none⟩ (.slice va2 (kk+1) vc2)) g pb w0.heap.size k n u s (.slice va keys.length vc) (z7 x (l.take (kk+1)) d).1 (kk+1) (z7 x (l.take (kk+1)) d).2):=by
      rw[HX,zl hneg,zl hneg];exact LdI.step HGW.out HPW3.out HAg.out HP0.out hgp HROWG.out HQ1.out HQ2.out HQ3.out HQ4.out (Moved.of_grew hG) (Rd.old HNT.out (HG0R.trans hG)) (λq hq=>.inl hq) (hG.heap HCBR.out) hown5 (Moved.of_grown hgr5) hnx5
     clear hown5 hgr5 hnx5 hrow5 hv5 hrh e0 e1 e2 e3 e4 e5 r5 b5 hG;go_wp2_with fail;go_roundw
     case rel=>exact⟨kk+1,by omega,by go_num,HREL.out⟩
     case measure=>simp[intOf];omega
    refine⟨zst,?_⟩;constructor
    ·intro y w2 hG hD K hK;have dr5:=hG.cell r5;exact zsr
    refine⟨zst,?_⟩;constructor
    ·intro y w2 hG hD K hK;have db5:=hG.cell b5;exact zsr
    refine⟨zst,zst,?_⟩;constructor
    ·exact zb109
    constructor
    ·intro y w2 hG hD K hK;simp only[kC,zq4,zq5,Is,and_true] at hD;simp only[jF,Act.put,zq,Is] at hK⊢;simp only[hD] at hK⊢;clear hD;refine jN ?_;go_simp;exact hK _ _ _ rfl ((jC.refl _).alloc _) ⟨_,rfl,qc _ _⟩
    trivial
   have HNEG:Hid (0≤cc):=Int.not_lt.1 hneg;go_wp2_with fail;refine sqQ [9,11,13] (LdW wr pb (aY (yQ x t cc).2) (.slice ga kk gc) (λw'=>LdI w3 w' g pb w0.heap.size k n u s (.slice va keys.length vc) (z7 x (l.take (kk+1)) d).1 (kk+1) (z7 x (l.take (kk+1)) d).2)) (λ_ w w'=>jC w w') ((λp (_:Nat→Value)=>(λ_ _ _=>True) p)) [[],[0],[],[2],[],[2,3,4],[2,3,4,5],[],[],[2,3,4,5,6,7,8],[2,3,4,5,6,7,8,9],[0,1,2,3,4,5,6,7,8,9,10],[0,1,2,3,4,5,6,7,8,9,10,11],[0,1,2,3,4,5,6,7,8,9,10,11,12]] [(55,0),(56,1),(57,2),(58,3),(59,4),(60,5),(61,6),(62,7),(63,8),(64,9),(65,10),(66,11),(67,12)]
    [IsP (.pointer (some ⟨g,5,none⟩)),IsP (.slice ga kk gc),IsP (.pointer (some ⟨N,5,none⟩)),IsP (.slice (some ⟨bb,off,none⟩) l.length c5),IsP (.int .i64 (kk:Int)),IsP (.pointer (some ⟨bb,off+kk*6,none⟩)),IsP (.agg #[.int .i64 xk,.int .i64 xn,.int .u64 xu,.string xs,.slice xa4 xn4 xc4,.slice xa5 xn5 xc5]),IsP (.pointer (some ⟨pb,0,none⟩)),IsP (.agg #[.int .i64 zkk,.int .i64 zn,.int .u64 zu,.string zs,.slice za4 zn4 zc4,.slice za5 zn5 zc5]),InP (LdX wr w0.heap.size (yQ x t cc).1) 1,InP (LdY wr w0.heap.size (yQ x t cc).1) 1,InP (LdZ w3 wr w0.heap.size pb (aY (yQ x t cc).2) (.slice ga kk gc) vs4 (yQ x t cc).1) 2,IsP (.pointer (some ⟨g,5,none⟩)),λ_ _ _=>True]
    sqe zk (LdW.grew (λw1 w2 hg h=>LdI.grew h hg)) ((jC.refl _).drew) zk zk ⟨jG,jG,jG,jG,jG,jG,jG,jG,jG,KK (InP.st (λv w w' hg h=>LdX.grew v w w' hg h)),KK (InP.st (λv w w' hg h=>LdY.grew v w w' hg h)),KK (InP.st (λv w w' hg h=>LdZ.grew v w w' hg h)),jG,⟨λ_ _ _ _ _ h=>h,λ_ _ _ _ _ h=>h⟩,trivial⟩ rfl ?_ ?_
   ·intro y w9 hW hF;simp only[yR,IsP,Nat.reduceAdd,zz,qg] at hF hW;have h9:=hF.2.2.2.2.2.2.2.2.2.1;have h10:=hF.2.2.2.2.2.2.2.2.2.2.1;have h11:=hF.2.2.2.2.2.2.2.2.2.2.2.1;simp only[jF,Act.put,zq];simp only[hF];clear hF;have hI:LdI w3 w9 g pb w0.heap.size k n u s (.slice va keys.length vc) (z7 x (l.take (kk+1)) d).1 (kk+1) (z7 x (l.take (kk+1)) d).2:=hW;have HREL:=zh hI;clear hW hI h9 h10 h11 e0 e1 e2 e3 e4 e5 b5 r5 cp;go_wp2_with fail;go_roundw
    case rel=>exact⟨kk+1,by omega,by go_num,HREL.out⟩
    case measure=>simp[intOf];omega
   constructor
   ·refine jP 0 1 ?_;intro y w9 p hlo hhi hW hD K hK;clear hD;generalize hAA:jF y _ _=AA at hK⊢;simp only[jF,Act.put,zq,IsP] at hAA;subst hAA;simp only[zq4,zq5,IsP] at hK;refine jN ?_;go_simp;exact hK _ _ _ rfl (jC.refl _) rfl
   constructor
   ·refine jP 0 1 ?_;intro y w9 p hlo hhi hW hD K hK;have dq:=jA (LdW.old hW zo HROWG.out hgp) 5 _ rfl;simp only[kV,zq4,zq5,IsP] at hD;generalize hAA:jF y _ _=AA at hK⊢;simp only[jF,Act.put,zq,IsP] at hAA;subst hAA;simp only[zq4,zq5,IsP] at hK;simp only[hD] at hK⊢;clear hD;refine jN ?_;go_simp;exact hK _ _ _ rfl (jC.refl _) rfl
   constructor
   ·exact zb111
   constructor
   ·refine jP 0 0 ?_;intro y w9 p hlo hhi hW hD K hK;obtain rfl:p=0:=(by omega);have db5:=jC.cell (show jC wr w9 from hW) b5;simp only[kV,zq4,zq5,IsP] at hD;generalize hAA:jF y _ _=AA at hK⊢;simp only[jF,Act.put,zq,IsP] at hAA;subst hAA;simp only[zq4,zq5,IsP] at hK;simp only[hD] at hK⊢;clear hD;refine jN ?_;go_simp;exact hK _ _ _ rfl (jC.refl _) rfl
   constructor
   ·exact zb111
   constructor
   ·refine jP 0 0 ?_;intro y w9 p hlo hhi hW hD K hK;simp only[kV,zq4,zq5,IsP] at hD;generalize hAA:jF y _ _=AA at hK⊢;simp only[jF,Act.put,zq,IsP] at hAA;subst hAA;simp only[zq4,zq5,IsP] at hK;simp only[hD] at hK⊢;clear hD;refine jN ?_;go_simp;exact hK _ _ _ rfl (jC.refl _) rfl
   constructor
   ·refine jP 0 0 ?_;intro y w9 p hlo hhi hW hD K hK;obtain rfl:p=0:=(by omega);have de0:=jC.cell (show jC wr w9 from hW) e0;have de1:=jC.cell (show jC wr w9 from hW) e1;have de2:=jC.cell (show jC wr w9 from hW) e2;have de3:=jC.cell (show jC wr w9 from hW) e3;have de4:=jC.cell (show jC wr w9 from hW) e4;have de5:=jC.cell (show jC wr w9 from hW) e5;simp only[kV,zq4,zq5,IsP] at hD;generalize hAA:jF y _ _=AA at hK⊢;simp only[jF,Act.put,zq,IsP] at hAA;subst hAA;simp only[zq4,zq5,IsP] at hK;simp only[hD] at hK⊢;clear hD;refine jN ?_;go_simp;exact hK _ _ _ rfl (jC.refl _) rfl
   constructor
   ·exact zb111
   constructor
   ·refine jP 0 0 ?_;intro y w9 p hlo hhi hW hD K hK;obtain rfl:p=0:=(by omega);have hxx:=jC.heap (show jC wr w9 from hW) HXX.out;have dx0:=jA hxx 0 _ rfl;have dx1:=jA hxx 1 _ rfl;have dx2:=jA hxx 2 _ rfl;have dx3:=jA hxx 3 _ rfl;have dx4:=jA hxx 4 _ rfl;have dx5:=jA hxx 5 _ rfl;clear hD;generalize hAA:jF y _ _=AA at hK⊢;simp only[jF,Act.put,zq,IsP] at hAA;subst hAA;simp only[zq4,zq5,IsP] at hK;refine jN ?_;go_simp;exact hK _ _ _ rfl (jC.refl _) rfl
   constructor
   ·refine jZ 0 rfl ?_;intro y w9 hW hD K hK;have hW0:jC wr w9:=hW;simp only[kV,zq4,zq5,IsP] at hD;generalize hAA:jF y _ _=AA at hK⊢;simp only[jF,Act.put,zq,IsP] at hAA;subst hAA;simp only[zq4,zq5,IsP] at hK;simp only[hD] at hK⊢;clear hD;refine jN ?_;go_simp;refine (HIH.out t HXS.out cc _ w9 HNT.out HFX.out (HG0R.trans hW0) HNEG.out HCC.out (hW0.heap HCBR.out)).mono ?_;rintro r w4 ⟨yv,rfl,hox,hm4,hc4⟩;exact hK _ _ _ rfl trivial ⟨(Moved.of_grew hW0).trans' hm4,hc4⟩ (show LdX _ _ _ _ _ from ⟨_,hox,λq hq=>hq.imp id (λh=>⟨zf hW0.size h.1,h.2⟩)⟩)
   constructor
   ·refine jP 1 1 ?_;intro y w9 p hlo hhi hW hD K hK;obtain rfl:p=1:=(by omega);simp only[kV,zq4,zq5,IsP] at hD;have h9:=hD.2.2.2.2.2.2.2.1;generalize hAA:jF y _ _=AA at hK⊢;simp only[jF,Act.put,zq,IsP] at hAA;subst hAA;simp only[zq4,zq5,IsP] at hK;simp only[hD] at hK⊢;clear hD;refine jN ?_;have h9':LdX wr w0.heap.size (yQ x t cc).1 (y 9) w9:=h9;obtain⟨Sx,ho,hb⟩:=h9';obtain⟨rk,rn,ru,rs,ra4,rn4,rc4,ra5,rn5,rc5,e⟩:=ho.node.node6;rw[e] at hK ho⊢;go_simp;exact hK _ _ _ rfl ((jC.refl _).alloc _) (show LdY _ _ _ _ _ from ⟨_,_,_,rfl,qc _ _,ho.grew ((jC.refl _).alloc _),λq hq=>(hb q hq).imp id (λh=>⟨h.1,qk h.2 ((jC.refl w9).alloc _).size⟩)⟩)
   constructor
   ·refine jZ 1 rfl ?_;intro y w9 hW hD K hK;have hW1:Moved (λq=>q=pb) wr w9∧w9.heap[pb]? = some (aY (yQ x t cc).2):=hW;simp only[kV,zq4,zq5,IsP] at hD;have h10:=hD.2.2.2.2.2.2.2.2.2.2.1;generalize hAA:jF y _ _=AA at hK⊢;simp only[jF,Act.put,zq,IsP] at hAA;subst hAA;simp only[zq4,zq5,IsP] at hK;simp only[hD] at hK⊢;clear hD;have h10':LdY wr w0.heap.size (yQ x t cc).1 (y 10) w9:=h10;obtain⟨hh,yv,Sx,hs9,hrh,hox,hSx⟩:=h10';rw[hs9] at hK⊢;clear hs9;refine jN ?_;refine N0 w9 _ _ rfl w3.heap.size _ vs4 rfl ⟨Moved.owns hW1.1 HQ1.1 (λe he=>HCL.out e he),HQ1.2⟩ hh 1 yv rfl hrh hox.node.node6 (by have:=HL4.out;have:=HF2.out;omega) (zf HQ4.size hW1.1.size) ?_;intro v' w' ho hgr hnx;exact hK _ _ _ rfl trivial ⟨(hW1.1.mono (λ_ _ e=>.inl e)).trans (Moved.of_grown hgr) (λ_ _ e=>.inr e),(Moved.of_grown hgr).heap hW1.2 (λe=>HCL.out _ e.symm rfl)⟩ (show LdZ _ _ _ _ _ _ _ _ _ _ from ⟨yv,Sx,w9,hW1.1,hox,hSx,hW1.2,ho,Moved.of_grown hgr,hnx⟩)
   constructor
   ·refine jP 2 2 ?_;intro y w9 p hlo hhi hW hD K hK;simp only[kV,zq4,zq5,IsP] at hD;generalize hAA:jF y _ _=AA at hK⊢;simp only[jF,Act.put,zq,IsP] at hAA;subst hAA;simp only[zq4,zq5,IsP] at hK;simp only[hD] at hK⊢;clear hD;refine jN ?_;go_simp;exact hK _ _ _ rfl (jC.refl _) rfl
   constructor
   ·refine jZ 2 rfl ?_;intro y w9 hW hD K hK;have hW2:Moved (λq=>q=pb∨some q=(Value.slice ga kk gc).ownBlock) wr w9∧w9.heap[pb]? = some (aY (yQ x t cc).2):=hW;have hr2:=hW2.1.heap HROWG.out (λe=>e.elim hgp (λe=>HGL.out _ e.symm rfl));have f5:=jE hr2 5;have dc5:=jA hr2 5 _ rfl;simp only[kV,zq4,zq5,IsP] at hD;have h11:=hD.2.2.2.2.2.2.2.2.2.2.2.1;generalize hAA:jF y _ _=AA at hK⊢;simp only[jF,Act.put,zq,IsP] at hAA;subst hAA;simp only[zq4,zq5,IsP] at hK;simp only[hD] at hK⊢;clear hD;have hz:LdZ w3 wr w0.heap.size pb (aY (yQ x t cc).2) (.slice ga kk gc) vs4 (yQ x t cc).1 (y 11) w9:=h11;clear h11;obtain⟨xv,Sx,wa,q1,q2,q3,q4,q5,q6,q7⟩:=hz;obtain⟨va3,vc3,hv3,_,_,_⟩:=jR q5.1;rw[zb,HL4] at hv3;simp only[zz,qg,Nat.zero_add] at hv3;rw[hv3] at hK q5 q7⊢;clear hv3;refine jN ?_;go_simp
    have hI:LdI w3 (w9.setCell ⟨g,5,none⟩ (.slice va3 (kk+1) vc3)) g pb w0.heap.size k n u s (.slice va keys.length vc) (z7 x (l.take (kk+1)) d).1 (kk+1) (z7 x (l.take (kk+1)) d).2:=by
     rw[HX,ze (Int.not_lt.2 HNEG.out),ze (Int.not_lt.2 HNEG.out)];exact LdI.step HGW.out HPW3.out HAg.out HP0.out hgp HROWG.out HQ1.out HQ2.out HQ3.out HQ4.out q1 q2 q3 q4 q5 q6 q7
    exact hK _ undef _ rfl trivial hI trivial
   trivial
  have ek:kk=l.length:=(by omega);subst ek;rw[qn] at HQ2 hcc;obtain⟨o0,o1,o2,o3,o4,o5⟩:=sqr6 HROWG;have r0:=jE HRX.out 0;have r1:=jE HRX.out 1;have r2:=jE HRX.out 2;have r3:=jE HRX.out 3;have r4:=jE HRX.out 4;have r5:=jE HRX.out 5;obtain⟨z0,z1,z2,z3,z4,z5⟩:=sqr6 HRX;have hne:¬g=N+2:=(by have:=hgN.out;omega);have hne2:¬N+2=g:=by have:=hgN.out;omega
  have HFIN:Hid (Rd (λq=>q < w0.heap.size∨JB w (kW wr (N+2) (.int .i64 k) (.int .i64 n) (.int .u64 u) (.string s) (.slice va keys.length vc) (.slice ga l.length gc)) q) (kW wr (N+2) (.int .i64 k) (.int .i64 n) (.int .u64 u) (.string s) (.slice va keys.length vc) (.slice ga l.length gc)) (yQ x (.mk k n u s keys l) c).1 (.agg #[.int .i64 k,.int .i64 n,.int .u64 u,.string s,.slice va keys.length vc,.slice ga l.length gc])∧Moved (λq=>q=pb) w (kW wr (N+2) (.int .i64 k) (.int .i64 n) (.int .u64 u) (.string s) (.slice va keys.length vc) (.slice ga l.length gc))∧(kW wr (N+2) (.int .i64 k) (.int .i64 n) (.int .u64 u) (.string s) (.slice va keys.length vc) (.slice ga l.length gc)).heap[pb]? = some (aY (yQ x (.mk k n u s keys l) c).2)):=by
   have h1:=HN.out;have h2:=hgN.out;have h3:=HPW.out;have h5:=HGW.out;have h6:=HPW3.out;have h7:=HP0.out;have h8:=HM3.size;have h9:=HQ4.size;have hT:=yJ wr (N+2) (.int .i64 k) (.int .i64 n) (.int .u64 u) (.string s) (.slice va keys.length vc) (.slice ga l.length gc);have h10:=hT.size;have h4:N+2 < w3.heap.size:=(zc.1 HR3.out).1;have hkv:zG (kW wr (N+2) (.int .i64 k) (.int .i64 n) (.int .u64 u) (.string s) (.slice va keys.length vc) (.slice ga l.length gc)) (N+3) (.slice va keys.length vc) keys:=Moved.owns hT (Moved.owns HQ4.out HKV.out (λq hq e=>by have h7:=qm HKV.out q hq;rcases e with rfl | rfl;exact KU HKV.out HROW3.out zd hq;omega)) (λq hq e=>by have:=qm HKV.out q hq;omega);have hlv:yM (kW wr (N+2) (.int .i64 k) (.int .i64 n) (.int .u64 u) (.string s) (.slice va keys.length vc) (.slice ga l.length gc)) w3.heap.size (.slice ga l.length gc) vs4:=⟨Moved.owns hT HQ1.1 (λq hq e=>by have:=qm HQ1.1 q hq;omega),HQ1.2⟩;have hkd:=HQ2.kept hT (λq hq e=>by have:=(HQ3.out q hq).1;omega);rw[HT,hcc];refine⟨λw' hm=>?_,HMR.trans hT (λj hj e=>by omega),hT.heap HCBR.out zo⟩;simp only[jM];refine⟨HB.out,_,_,vs4,rfl,zG.strs (Moved.owns hm hkv (λq hq e=>e (.inr (by have:=qm hkv q hq;exact⟨by omega,by omega⟩)))) hkz.out,yM.rows ⟨Moved.owns hm hlv.1 (λq hq e=>e (.inr (by have:=qm hlv.1 q hq;exact⟨by omega,by omega⟩))),hlv.2⟩,hkd w' (hm.mono (λj hj hq hs=>hq ?_))⟩;have:=(HQ3.out j hs).1;rcases this with h|h
   ·exact .inl h
   exact .inr ⟨by omega,by omega⟩
  clear HIH HK HF3 HSZ HKS hkz HROW3 kU HCBR HKV HQ1 HQ2 HQ3 HQ4 HX0 HG0 HG0R HMR HBX HXX HRX HB1' HB2' HR3 HM3 HCB3;go_wp2_with fail;refine bodyPost_ret (v:=.agg #[.int .i64 k,.int .i64 n,.int .u64 u,.string s,.slice va keys.length vc,.slice ga l.length gc]) (by simp[results,results33,go_sem,z0,z1,z2,z3,z4,z5,hne,hne2]) rfl ?_;exact⟨_,rfl,HFIN.1,HFIN.2.1,HFIN.2.2⟩
end Go.Proofs.YtdjoffgkndncfaaGreat
namespace Go.Proofs.YtdjoffgkndncfaaGreat
open Go.Proofs.Tryz
open Go Go.ChangeShapes Go.WideShapes Go.ChangeAt Go.RowKit Go.Joins
open Go.ChangeMaps (open_string shut_string)
open Go.Deep
open Ft (V3 vV okV ValsAt inlineB legalB packF codeF typedF allF oneF unpackF)
theorem GQ:JV 1048576=1048576:=by decide
theorem C9 {fl:Int} {t:Tr} (hc:JZ t=0) (hsm:smT 60 t) (hr:tL t) (hz:t.size≤120):∃b v,rV 1048576 fl t b v∧YB 1048576 fl t=(aQ b v,0):=by
 obtain⟨b,v,hb⟩:=M7 (jD:=fl) hc hsm hr hz;refine⟨b,v,hb,?_⟩;unfold YB;rw[ze (by rw[hc];decide),GQ];exact FL hb.inv.e0 hb.s hb.stk (by have:=hb.len;omega) hb.near (by have:=hb.doc_len;omega)
end Go.Proofs.YtdjoffgkndncfaaGreat
namespace Go.Proofs.YtdjoffgkndncfaaGreat
open Go.Proofs.Tryz
open Go Go.ChangeShapes Go.WideShapes Go.ChangeAt Go.RowKit Go.Joins Go.Deep
open Ft (V3 vV okV ValsAt inlineB legalB packF codeF typedF allF oneF allAt headF fitsL fitsV fitsF belowW isA unpackF)
theorem strs_few:∀(m:Nat) (t:Tr) (b:Nat),t.size≤m→Y9 b t→(strsT t).length+2≤4*t.size:=by
 intro m
 induction m with
 | zero=>intro t b h;have:=t.size_pos;omega
 | succ m ih=>
  intro t b h hv;obtain⟨k,n,u,s,keys,l⟩:=t;obtain⟨_,_,v3,v4,_⟩:=J9 hv;have qG:=valL_iff.1 hv.2.2.2;simp only[Tr.size] at h
  have hk:keys.length≤l.length:=by
   by_cases e:k=17
   ·rw[(v4 e).2];exact zr _
   rw[v3 e];exact Nat.zero_le _
  have hl:∀r:List Tr,(∀x∈r,x∈l)→(AK r).length+2*r.length≤4*zY r:=by
   intro r
   induction r with
   | nil=>intro _;simp[AK,zY]
   | cons x r ihr=>
    intro hm;have h1:=ihr λz hz=>hm z (by simp[hz]);have hx:=hm x zp2;have h2:=ih x (b+1) zp7 (qG x hx);simp only[AK,zY,zb,zz];omega
  have h3:=hl l λ_ h=>h;simp only[strsT,Tr.size,zb];have h4:(if k=5∨k=6 then [s] else ([]:List ByteArray)).length≤1:=by split<;>simp
  omega
/-! ### sorting keeps the strings and the empty maps -/
theorem D5:∀{l:List Tr},(∀x∈l,Few x)→sH l
 | [],_=>trivial
 | t::r,h=>⟨h t zp2,D5 λx hx=>h x oL⟩
theorem D6:∀(m:Nat) (t:Tr),t.size≤m→okS t→Few t:=by
 intro m
 induction m with
 | zero=>intro t h;have:=t.size_pos;omega
 | succ m ih=>
  intro t h ho;obtain⟨k,n,u,s,keys,l⟩:=t;rw[DG] at ho;simp only[Tr.size] at h;exact⟨ho.2.2.1,ho.2.2.2.1,D5 λx hx=>ih x zp7 (ho.2.2.2.2 x hx)⟩
end Go.Proofs.YtdjoffgkndncfaaGreat
