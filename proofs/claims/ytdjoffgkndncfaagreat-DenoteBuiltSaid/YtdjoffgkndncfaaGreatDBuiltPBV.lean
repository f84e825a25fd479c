/-
  Texts of the proof.
-/
import Derived.Test.YtdjoffgkndncfaaGreatDBuiltPBO
import Derived.Test.YtdjoffgkndncfaaGreatDBuiltPBS
import Derived.Test.YtdjoffgkndncfaaGreatDBuiltPBU
set_option linter.unusedVariables false
set_option linter.unusedSimpArgs false
set_option maxHeartbeats 64000000
set_option maxRecDepth 100000
namespace Go.Proofs.YtdjoffgkndncfaaGreat
open Go.Proofs.Tryz
open Go Go.ChangeShapes Go.WideShapes Go.ChangeAt Go.RowKit Go.Joins Go.Deep
open Go.Proofs.YtdjoffgkndncfaaGreat.Ft (V3 vV okV ValsAt inlineB legalB packF codeF typedF allF)
theorem LH (k n u:Int) (s:ByteArray) (a4:Option Addr) (n4 c4:Nat) (a5:Option Addr) (n5 c5:Nat) (w:World):Calls prog 75 #[.agg #[.int .i64 k,.int .i64 n,.int .u64 u,.string s,.slice a4 n4 c4,.slice a5 n5 c5]] w fun r w'=>r=.returned (.int .i64 n)∧jD w w':=by
 go_enter func75,ntmps75;go_wp2;go_ret;exact⟨rfl,(jD.refl w).alloc _⟩
theorem LI (k n u:Int) (s:ByteArray) (a4:Option Addr) (n4 c4:Nat) (a5:Option Addr) (n5 c5:Nat) (w:World):Calls prog 78 #[.agg #[.int .i64 k,.int .i64 n,.int .u64 u,.string s,.slice a4 n4 c4,.slice a5 n5 c5]] w fun r w'=>r=.returned (.int .u64 u)∧jD w w':=by
 go_enter func78,ntmps78;go_wp2;go_ret;exact⟨rfl,(jD.refl w).alloc _⟩
theorem EO (k n u:Int) (s:ByteArray) (a4:Option Addr) (n4 c4:Nat) (a5:Option Addr) (n5 c5:Nat) (w:World):Calls prog 84 #[.agg #[.int .i64 k,.int .i64 n,.int .u64 u,.string s,.slice a4 n4 c4,.slice a5 n5 c5]] w fun r w'=>r=.returned (.string s)∧jD w w':=by
 go_enter func84,ntmps84;go_wp2;go_ret;exact⟨rfl,(jD.refl w).alloc _⟩
theorem wW (k n u:Int) (s:ByteArray) (a4:Option Addr) (n4 c4:Nat) (a5:Option Addr) (n5 c5:Nat) (w:World):Calls prog 81 #[.agg #[.int .i64 k,.int .i64 n,.int .u64 u,.string s,.slice a4 n4 c4,.slice a5 n5 c5]] w fun r w'=>r=.returned (.bool (decide (n=1)))∧jD w w':=by
 by_cases h:n=1
 ·subst h;go_enter func81,ntmps81;go_wp2;go_ret;exact⟨rfl,(jD.refl w).alloc _⟩
 ·have hb:(n == 1)=false:=by simpa using h
  have HD:Hid (decide (n=1)=false):=by show _=_;simpa using h
  clear h;go_enter func81,ntmps81;go_wp2;go_ret;exact⟨by rw[HD.out];rfl,(jD.refl w).alloc _⟩
theorem CF {w:World} {x:Tr} {k n u:Int} {s:ByteArray} {a4 a5:Option Addr} {n4 c4 n5 c5:Nat} (h:jM w x (.agg #[.int .i64 k,.int .i64 n,.int .u64 u,.string s,.slice a4 n4 c4,.slice a5 n5 c5])):n=x.fn∧u=x.fu∧s=x.fs∧zO x.fn∧J4 x.fu∧kN x.fs.size:=by
 obtain⟨k',n',u',s',keys,l⟩:=x;simp only[jM] at h;obtain⟨hb,kv,lv,vs,e,_⟩:=h;injection e with e;injection e with e;simp at e;obtain⟨rfl,rfl,rfl,rfl,_⟩:=e;exact⟨rfl,rfl,rfl,hb.2.1,hb.2.2.1,hb.2.2.2⟩
theorem pC (k n u:Int) (s:ByteArray) (a4:Option Addr) (n4 c4:Nat) (a5:Option Addr) (c5:Nat) (l:List Tr) (vs:List Value) (w:World) (hr:vL w (.slice a5 l.length c5) vs) (hk:yH w l vs) (hl:l.length≤4096) :
 Calls prog 74 #[.agg #[.int .i64 k,.int .i64 n,.int .u64 u,.string s,.slice a4 n4 c4,.slice a5 l.length c5],.func (.func 75) #[] #[]] w fun r w'=>∃v',r=.returned v'∧w'.ownsRow w.heap.size 2 1 v' (l.map Tr.fn).length ((l.map Tr.fn).map fun x=>.int .i64 x)∧jD w w':=by
 obtain⟨MR,hMR⟩:∃MR,(l.map Tr.fn)=MR:=⟨_,rfl⟩;rw[hMR];have HMR:=zh hMR;clear hMR;have HR:=zh hr;have HK:=zh hk;clear hr hk;have jK:=heap_alloc_new w (.cells #[.int .i64 k,.int .i64 n,.int .u64 u,.string s,.slice a4 n4 c4,.slice a5 l.length c5] 26);have HG0:=zh ((jD.refl w).alloc (.cells #[.int .i64 k,.int .i64 n,.int .u64 u,.string s,.slice a4 n4 c4,.slice a5 l.length c5] 26));have HS0:=zh (World.size_alloc w (.cells #[.int .i64 k,.int .i64 n,.int .u64 u,.string s,.slice a4 n4 c4,.slice a5 l.length c5] 26));have g5:=jA jK 5 _ rfl;clear jK;go_enter func74,ntmps74;go_wp2_with fail;generalize (w.alloc (.cells #[.int .i64 k,.int .i64 n,.int .u64 u,.string s,.slice a4 n4 c4,.slice a5 l.length c5] 26))=w1 at *
 go_loopw [4,10] (fun v i wr=>∃q:Nat,q≤l.length∧i=.int .i64 q∧Hid (wr.ownsRow w1.heap.size 2 1 v ((l.take q).map Tr.fn).length (((l.take q).map Tr.fn).map fun x=>.int .i64 x)∧jD w1 wr)) (fun _ i _=>l.length - (intOf i).toNat)
 case atStart=>exact⟨0,Nat.zero_le _,rfl,by
  show _∧_
  exact⟨World.ownsRow_nil _ _ _ _,jD.refl _⟩⟩
 case round=>
  obtain⟨q,hq,rfl,HW⟩:=hrel;by_cases hlt:q < l.length
  ·obtain⟨x,hx⟩:∃x,l[q]? = some x:=⟨_,List.getElem?_eq_getElem hlt⟩;obtain⟨xv,hxv,hnx⟩:=HK.out.get hx;have HSN:Hid ((l.take (q+1)).map Tr.fn=((l.take q).map Tr.fn)++[(Tr.fn) x]):=by show _=_;rw[List.take_add_one,hx];simp
   obtain⟨b,off,rfl,hc6⟩:∃b off,a5=some ⟨b,off,none⟩∧yQ wr b (off+q*6) xv:=by
    obtain⟨a,c,e,_,_,_,h⟩:=HR.out;injection e with e1 e2 e3;subst e1;obtain⟨b,off,e,h6⟩:=h q xv hxv;exact⟨b,off,e,(h6.grew HG0.out).grew HW.out.2⟩
   obtain⟨xk,xn,xu,xs,xa4,xn4,xc4,xa5,xn5,xc5,rfl⟩:=hnx.node6;obtain⟨f1,f2,f3,f4,f5,f6⟩:=CF hnx;obtain⟨e0,e1,e2,e3,e4,e5⟩:=hc6.get;have HO:=zh HW.out.1;have HG:=zh HW.out.2;have hlm:((l.take q).map Tr.fn).length=q:=by rw[List.length_map,List.length_take];omega
   generalize ((l.take q).map Tr.fn)=M at *;have HLM:=zh hlm;obtain⟨va,vc,hvf,hz1,hz2,hz3⟩:=jX HO.out;rw[hlm] at hvf;subst hvf;have HX:Hid ((Tr.fn) x=xn):=by show _=_;exact f1.symm
   have HF6:=zh f6;clear hc6 hx hxv hnx hz1 hz2 hz3 hlm HW f1 f2 f3 f4 f5 f6;have hqi:(q:Int) < l.length:=by omega
   have hqb:q < 4096:=by omega
   have HQB:=zh hqb;clear hqb;go_wp2_with fail;have HGR:=zh ((jD.refl wr).alloc (.cells #[.int .i64 xk,.int .i64 xn,.int .u64 xu,.string xs,.slice xa4 xn4 xc4,.slice xa5 xn5 xc5] 26));generalize (wr.alloc (.cells #[.int .i64 xk,.int .i64 xn,.int .u64 xu,.string xs,.slice xa4 xn4 xc4,.slice xa5 xn5 xc5] 26))=ws at *;refine (LH xk xn xu xs xa4 xn4 xc4 xa5 xn5 xc5 ws).mono ?_;obtain⟨X,hX⟩:∃X,xn=X:=⟨_,rfl⟩;skip;rintro r w4 ⟨rfl,hg4⟩;have HG4:=zh (HGR.out.trans hg4);have HO4:=zh (y7 HO.out HG4.out);clear hg4 e0 e1 e2 e3 e4 e5;subst hX;go_wp2_with (at_builtin;refine aH (fun x=>.int .i64 x) (fun _=>rfl) 115 2 (.int .i64 0) 8 underlying115 BA rfl zd rfl _ _ rfl w1.heap.size (.slice va q vc) M rfl (y7 HO4.out ((jD.refl _).alloc _)) _ [xn] rfl (eV (fun x=>.int .i64 x) _ _ xn) (fun n c e=>by cases e) zp9 (Nat.le_trans (HG.out.trans HG4.out).size zp2) ?_;intro v' w5 j8 hgr hnx;have HG3:Hid (jD w1 w5):=aY (y7 HO4.out ((jD.refl _).alloc _)) ((HG.out.trans HG4.out).alloc _) hgr;have HO3:=zh j8;obtain⟨va2,vc2,hvf2,hz1,hz2,hz3⟩:=jX j8;rw[List.length_append,HLM.out] at hvf2;subst hvf2;clear j8 hgr hnx hz1 hz2 hz3);go_roundw
   case rel=>
    refine⟨q+1,by omega,by go_num,?_⟩;show _∧_;rw[HSN.out,HX.out];exact⟨HO3.out,HG3.out⟩
   case measure=>simp[intOf];omega
  ·exact CH
theorem pD (k n u:Int) (s:ByteArray) (a4:Option Addr) (n4 c4:Nat) (a5:Option Addr) (c5:Nat) (l:List Tr) (vs:List Value) (w:World) (hr:vL w (.slice a5 l.length c5) vs) (hk:yH w l vs) (hl:l.length≤4096) :
 Calls prog 77 #[.agg #[.int .i64 k,.int .i64 n,.int .u64 u,.string s,.slice a4 n4 c4,.slice a5 l.length c5],.func (.func 78) #[] #[]] w fun r w'=>∃v',r=.returned v'∧w'.ownsRow w.heap.size 22 1 v' (l.map Tr.fu).length ((l.map Tr.fu).map fun x=>.int .u64 x)∧jD w w':=by
 obtain⟨MR,hMR⟩:∃MR,(l.map Tr.fu)=MR:=⟨_,rfl⟩;rw[hMR];have HMR:=zh hMR;clear hMR;have HR:=zh hr;have HK:=zh hk;clear hr hk;have jK:=heap_alloc_new w (.cells #[.int .i64 k,.int .i64 n,.int .u64 u,.string s,.slice a4 n4 c4,.slice a5 l.length c5] 26);have HG0:=zh ((jD.refl w).alloc (.cells #[.int .i64 k,.int .i64 n,.int .u64 u,.string s,.slice a4 n4 c4,.slice a5 l.length c5] 26));have HS0:=zh (World.size_alloc w (.cells #[.int .i64 k,.int .i64 n,.int .u64 u,.string s,.slice a4 n4 c4,.slice a5 l.length c5] 26));have g5:=jA jK 5 _ rfl;clear jK;go_enter func77,ntmps77;go_wp2_with fail;generalize (w.alloc (.cells #[.int .i64 k,.int .i64 n,.int .u64 u,.string s,.slice a4 n4 c4,.slice a5 l.length c5] 26))=w1 at *
 go_loopw [4,10] (fun v i wr=>∃q:Nat,q≤l.length∧i=.int .i64 q∧Hid (wr.ownsRow w1.heap.size 22 1 v ((l.take q).map Tr.fu).length (((l.take q).map Tr.fu).map fun x=>.int .u64 x)∧jD w1 wr)) (fun _ i _=>l.length - (intOf i).toNat)
 case atStart=>exact⟨0,Nat.zero_le _,rfl,by
  show _∧_
  exact⟨World.ownsRow_nil _ _ _ _,jD.refl _⟩⟩
 case round=>
  obtain⟨q,hq,rfl,HW⟩:=hrel;by_cases hlt:q < l.length
  ·obtain⟨x,hx⟩:∃x,l[q]? = some x:=⟨_,List.getElem?_eq_getElem hlt⟩;obtain⟨xv,hxv,hnx⟩:=HK.out.get hx;have HSN:Hid ((l.take (q+1)).map Tr.fu=((l.take q).map Tr.fu)++[(Tr.fu) x]):=by show _=_;rw[List.take_add_one,hx];simp
   obtain⟨b,off,rfl,hc6⟩:∃b off,a5=some ⟨b,off,none⟩∧yQ wr b (off+q*6) xv:=by
    obtain⟨a,c,e,_,_,_,h⟩:=HR.out;injection e with e1 e2 e3;subst e1;obtain⟨b,off,e,h6⟩:=h q xv hxv;exact⟨b,off,e,(h6.grew HG0.out).grew HW.out.2⟩
   obtain⟨xk,xn,xu,xs,xa4,xn4,xc4,xa5,xn5,xc5,rfl⟩:=hnx.node6;obtain⟨f1,f2,f3,f4,f5,f6⟩:=CF hnx;obtain⟨e0,e1,e2,e3,e4,e5⟩:=hc6.get;have HO:=zh HW.out.1;have HG:=zh HW.out.2;have hlm:((l.take q).map Tr.fu).length=q:=by rw[List.length_map,List.length_take];omega
   generalize ((l.take q).map Tr.fu)=M at *;have HLM:=zh hlm;obtain⟨va,vc,hvf,hz1,hz2,hz3⟩:=jX HO.out;rw[hlm] at hvf;subst hvf;have HX:Hid ((Tr.fu) x=xu):=by show _=_;exact f2.symm
   have HF6:=zh f6;clear hc6 hx hxv hnx hz1 hz2 hz3 hlm HW f1 f2 f3 f4 f5 f6;have hqi:(q:Int) < l.length:=by omega
   have hqb:q < 4096:=by omega
   have HQB:=zh hqb;clear hqb;go_wp2_with fail;have HGR:=zh ((jD.refl wr).alloc (.cells #[.int .i64 xk,.int .i64 xn,.int .u64 xu,.string xs,.slice xa4 xn4 xc4,.slice xa5 xn5 xc5] 26));generalize (wr.alloc (.cells #[.int .i64 xk,.int .i64 xn,.int .u64 xu,.string xs,.slice xa4 xn4 xc4,.slice xa5 xn5 xc5] 26))=ws at *;refine (LI xk xn xu xs xa4 xn4 xc4 xa5 xn5 xc5 ws).mono ?_;obtain⟨X,hX⟩:∃X,xu=X:=⟨_,rfl⟩;skip;rintro r w4 ⟨rfl,hg4⟩;have HG4:=zh (HGR.out.trans hg4);have HO4:=zh (y7 HO.out HG4.out);clear hg4 e0 e1 e2 e3 e4 e5;subst hX;go_wp2_with (at_builtin;refine aH (fun x=>.int .u64 x) (fun _=>rfl) 119 22 (.int .u64 0) 8 underlying119 wU rfl zd rfl _ _ rfl w1.heap.size (.slice va q vc) M rfl (y7 HO4.out ((jD.refl _).alloc _)) _ [xu] rfl (eV (fun x=>.int .u64 x) _ _ xu) (fun n c e=>by cases e) zp9 (Nat.le_trans (HG.out.trans HG4.out).size zp2) ?_;intro v' w5 j8 hgr hnx;have HG3:Hid (jD w1 w5):=aY (y7 HO4.out ((jD.refl _).alloc _)) ((HG.out.trans HG4.out).alloc _) hgr;have HO3:=zh j8;obtain⟨va2,vc2,hvf2,hz1,hz2,hz3⟩:=jX j8;rw[List.length_append,HLM.out] at hvf2;subst hvf2;clear j8 hgr hnx hz1 hz2 hz3);go_roundw
   case rel=>
    refine⟨q+1,by omega,by go_num,?_⟩;show _∧_;rw[HSN.out,HX.out];exact⟨HO3.out,HG3.out⟩
   case measure=>simp[intOf];omega
  ·exact CH
theorem EP (k n u:Int) (s:ByteArray) (a4:Option Addr) (n4 c4:Nat) (a5:Option Addr) (c5:Nat) (l:List Tr) (vs:List Value) (w:World) (hr:vL w (.slice a5 l.length c5) vs) (hk:yH w l vs) (hl:l.length≤4096) :
 Calls prog 80 #[.agg #[.int .i64 k,.int .i64 n,.int .u64 u,.string s,.slice a4 n4 c4,.slice a5 l.length c5],.func (.func 81) #[] #[]] w fun r w'=>∃v',r=.returned v'∧w'.ownsRow w.heap.size 4 1 v' (l.map (fun t=>decide (t.fn=1))).length ((l.map (fun t=>decide (t.fn=1))).map fun x=>.bool x)∧jD w w':=by
 obtain⟨MR,hMR⟩:∃MR,(l.map (fun t=>decide (t.fn=1)))=MR:=⟨_,rfl⟩;rw[hMR];have HMR:=zh hMR;clear hMR;have HR:=zh hr;have HK:=zh hk;clear hr hk;have jK:=heap_alloc_new w (.cells #[.int .i64 k,.int .i64 n,.int .u64 u,.string s,.slice a4 n4 c4,.slice a5 l.length c5] 26);have HG0:=zh ((jD.refl w).alloc (.cells #[.int .i64 k,.int .i64 n,.int .u64 u,.string s,.slice a4 n4 c4,.slice a5 l.length c5] 26));have HS0:=zh (World.size_alloc w (.cells #[.int .i64 k,.int .i64 n,.int .u64 u,.string s,.slice a4 n4 c4,.slice a5 l.length c5] 26));have g5:=jA jK 5 _ rfl;clear jK;go_enter func80,ntmps80;go_wp2_with fail;generalize (w.alloc (.cells #[.int .i64 k,.int .i64 n,.int .u64 u,.string s,.slice a4 n4 c4,.slice a5 l.length c5] 26))=w1 at *
 go_loopw [4,10] (fun v i wr=>∃q:Nat,q≤l.length∧i=.int .i64 q∧Hid (wr.ownsRow w1.heap.size 4 1 v ((l.take q).map (fun t=>decide (t.fn=1))).length (((l.take q).map (fun t=>decide (t.fn=1))).map fun x=>.bool x)∧jD w1 wr)) (fun _ i _=>l.length - (intOf i).toNat)
 case atStart=>exact⟨0,Nat.zero_le _,rfl,by
  show _∧_
  exact⟨World.ownsRow_nil _ _ _ _,jD.refl _⟩⟩
 case round=>
  obtain⟨q,hq,rfl,HW⟩:=hrel;by_cases hlt:q < l.length
  ·obtain⟨x,hx⟩:∃x,l[q]? = some x:=⟨_,List.getElem?_eq_getElem hlt⟩;obtain⟨xv,hxv,hnx⟩:=HK.out.get hx;have HSN:Hid ((l.take (q+1)).map (fun t=>decide (t.fn=1))=((l.take q).map (fun t=>decide (t.fn=1)))++[((fun t=>decide (t.fn=1))) x]):=by show _=_;rw[List.take_add_one,hx];simp
   obtain⟨b,off,rfl,hc6⟩:∃b off,a5=some ⟨b,off,none⟩∧yQ wr b (off+q*6) xv:=by
    obtain⟨a,c,e,_,_,_,h⟩:=HR.out;injection e with e1 e2 e3;subst e1;obtain⟨b,off,e,h6⟩:=h q xv hxv;exact⟨b,off,e,(h6.grew HG0.out).grew HW.out.2⟩
   obtain⟨xk,xn,xu,xs,xa4,xn4,xc4,xa5,xn5,xc5,rfl⟩:=hnx.node6;obtain⟨f1,f2,f3,f4,f5,f6⟩:=CF hnx;obtain⟨e0,e1,e2,e3,e4,e5⟩:=hc6.get;have HO:=zh HW.out.1;have HG:=zh HW.out.2;have hlm:((l.take q).map (fun t=>decide (t.fn=1))).length=q:=by rw[List.length_map,List.length_take];omega
   generalize ((l.take q).map (fun t=>decide (t.fn=1)))=M at *;have HLM:=zh hlm;obtain⟨va,vc,hvf,hz1,hz2,hz3⟩:=jX HO.out;rw[hlm] at hvf;subst hvf;have HX:Hid (((fun t=>decide (t.fn=1))) x=decide (xn=1)):=by show _=_;rw[f1]
   have HF6:=zh f6;clear hc6 hx hxv hnx hz1 hz2 hz3 hlm HW f1 f2 f3 f4 f5 f6;have hqi:(q:Int) < l.length:=by omega
   have hqb:q < 4096:=by omega
   have HQB:=zh hqb;clear hqb;go_wp2_with fail;have HGR:=zh ((jD.refl wr).alloc (.cells #[.int .i64 xk,.int .i64 xn,.int .u64 xu,.string xs,.slice xa4 xn4 xc4,.slice xa5 xn5 xc5] 26));generalize (wr.alloc (.cells #[.int .i64 xk,.int .i64 xn,.int .u64 xu,.string xs,.slice xa4 xn4 xc4,.slice xa5 xn5 xc5] 26))=ws at *;refine (wW xk xn xu xs xa4 xn4 xc4 xa5 xn5 xc5 ws).mono ?_;obtain⟨X,hX⟩:∃X,decide (xn=1)=X:=⟨_,rfl⟩;rw[hX] at HX⊢;rintro r w4 ⟨rfl,hg4⟩;have HG4:=zh (HGR.out.trans hg4);have HO4:=zh (y7 HO.out HG4.out);clear hg4 e0 e1 e2 e3 e4 e5;clear hX;go_wp2_with (at_builtin;refine aH (fun x=>.bool x) (fun _=>rfl) 123 4 (.bool false) 1 underlying123 EK rfl zd rfl _ _ rfl w1.heap.size (.slice va q vc) M rfl (y7 HO4.out ((jD.refl _).alloc _)) _ [X] rfl (eV (fun x=>.bool x) _ _ X) (fun n c e=>by cases e) zp9 (Nat.le_trans (HG.out.trans HG4.out).size zp2) ?_;intro v' w5 j8 hgr hnx;have HG3:Hid (jD w1 w5):=aY (y7 HO4.out ((jD.refl _).alloc _)) ((HG.out.trans HG4.out).alloc _) hgr;have HO3:=zh j8;obtain⟨va2,vc2,hvf2,hz1,hz2,hz3⟩:=jX j8;rw[List.length_append,HLM.out] at hvf2;subst hvf2;clear j8 hgr hnx hz1 hz2 hz3);go_roundw
   case rel=>
    refine⟨q+1,by omega,by go_num,?_⟩;show _∧_;rw[HSN.out,HX.out];exact⟨HO3.out,HG3.out⟩
   case measure=>simp[intOf];omega
  ·exact CH
theorem EQ (k n u:Int) (s:ByteArray) (a4:Option Addr) (n4 c4:Nat) (a5:Option Addr) (c5:Nat) (l:List Tr) (vs:List Value) (w:World) (hr:vL w (.slice a5 l.length c5) vs) (hk:yH w l vs) (hl:l.length≤4096) :
 Calls prog 83 #[.agg #[.int .i64 k,.int .i64 n,.int .u64 u,.string s,.slice a4 n4 c4,.slice a5 l.length c5],.func (.func 84) #[] #[]] w fun r w'=>∃v',r=.returned v'∧w'.ownsRow w.heap.size 9 1 v' (l.map Tr.fs).length ((l.map Tr.fs).map fun x=>.string x)∧jD w w':=by
 obtain⟨MR,hMR⟩:∃MR,(l.map Tr.fs)=MR:=⟨_,rfl⟩;rw[hMR];have HMR:=zh hMR;clear hMR;have HR:=zh hr;have HK:=zh hk;clear hr hk;have jK:=heap_alloc_new w (.cells #[.int .i64 k,.int .i64 n,.int .u64 u,.string s,.slice a4 n4 c4,.slice a5 l.length c5] 26);have HG0:=zh ((jD.refl w).alloc (.cells #[.int .i64 k,.int .i64 n,.int .u64 u,.string s,.slice a4 n4 c4,.slice a5 l.length c5] 26));have HS0:=zh (World.size_alloc w (.cells #[.int .i64 k,.int .i64 n,.int .u64 u,.string s,.slice a4 n4 c4,.slice a5 l.length c5] 26));have g5:=jA jK 5 _ rfl;clear jK;go_enter func83,ntmps83;go_wp2_with fail;generalize (w.alloc (.cells #[.int .i64 k,.int .i64 n,.int .u64 u,.string s,.slice a4 n4 c4,.slice a5 l.length c5] 26))=w1 at *
 go_loopw [4,10] (fun v i wr=>∃q:Nat,q≤l.length∧i=.int .i64 q∧Hid (wr.ownsRow w1.heap.size 9 1 v ((l.take q).map Tr.fs).length (((l.take q).map Tr.fs).map fun x=>.string x)∧jD w1 wr)) (fun _ i _=>l.length - (intOf i).toNat)
 case atStart=>exact⟨0,Nat.zero_le _,rfl,by
  show _∧_
  exact⟨World.ownsRow_nil _ _ _ _,jD.refl _⟩⟩
 case round=>
  obtain⟨q,hq,rfl,HW⟩:=hrel;by_cases hlt:q < l.length
  ·obtain⟨x,hx⟩:∃x,l[q]? = some x:=⟨_,List.getElem?_eq_getElem hlt⟩;obtain⟨xv,hxv,hnx⟩:=HK.out.get hx;have HSN:Hid ((l.take (q+1)).map Tr.fs=((l.take q).map Tr.fs)++[(Tr.fs) x]):=by show _=_;rw[List.take_add_one,hx];simp
   obtain⟨b,off,rfl,hc6⟩:∃b off,a5=some ⟨b,off,none⟩∧yQ wr b (off+q*6) xv:=by
    obtain⟨a,c,e,_,_,_,h⟩:=HR.out;injection e with e1 e2 e3;subst e1;obtain⟨b,off,e,h6⟩:=h q xv hxv;exact⟨b,off,e,(h6.grew HG0.out).grew HW.out.2⟩
   obtain⟨xk,xn,xu,xs,xa4,xn4,xc4,xa5,xn5,xc5,rfl⟩:=hnx.node6;obtain⟨f1,f2,f3,f4,f5,f6⟩:=CF hnx;obtain⟨e0,e1,e2,e3,e4,e5⟩:=hc6.get;have HO:=zh HW.out.1;have HG:=zh HW.out.2;have hlm:((l.take q).map Tr.fs).length=q:=by rw[List.length_map,List.length_take];omega
   generalize ((l.take q).map Tr.fs)=M at *;have HLM:=zh hlm;obtain⟨va,vc,hvf,hz1,hz2,hz3⟩:=jX HO.out;rw[hlm] at hvf;subst hvf;have HX:Hid ((Tr.fs) x=xs):=by show _=_;exact f3.symm
   have HF6:=zh f6;clear hc6 hx hxv hnx hz1 hz2 hz3 hlm HW f1 f2 f3 f4 f5 f6;have hqi:(q:Int) < l.length:=by omega
   have hqb:q < 4096:=by omega
   have HQB:=zh hqb;clear hqb;go_wp2_with fail;have HGR:=zh ((jD.refl wr).alloc (.cells #[.int .i64 xk,.int .i64 xn,.int .u64 xu,.string xs,.slice xa4 xn4 xc4,.slice xa5 xn5 xc5] 26));generalize (wr.alloc (.cells #[.int .i64 xk,.int .i64 xn,.int .u64 xu,.string xs,.slice xa4 xn4 xc4,.slice xa5 xn5 xc5] 26))=ws at *;refine (EO xk xn xu xs xa4 xn4 xc4 xa5 xn5 xc5 ws).mono ?_;obtain⟨X,hX⟩:∃X,xs=X:=⟨_,rfl⟩;skip;rintro r w4 ⟨rfl,hg4⟩;have HG4:=zh (HGR.out.trans hg4);have HO4:=zh (y7 HO.out HG4.out);clear hg4 e0 e1 e2 e3 e4 e5;subst hX;have HXZ:Hid (kN xs.size):=by show kN _;rw[← HX.out];exact HF6.out
   have HO5:Hid (∀o,zV (w4.alloc o) w1.heap.size (.slice va M.length vc) M):=fun o=>by rw[HLM.out];have h:=y7 HO4.out ((jD.refl w4).alloc o);rw[HLM.out] at h;show World.ownsRow _ _ _ _ _ M.length _;rw[HLM.out];exact h
   go_wp2_with (at_builtin;refine KR rfl _ _ rfl w1.heap.size (.slice va q vc) M rfl (by have h:=HO5.out;rw[HLM.out] at h;exact h _) _ [xs] rfl (iB _ _ HXZ.out) zp9 (Nat.le_trans (HG.out.trans HG4.out).size zp2) ?_;intro v' w5 j8 hgr hnx;have HG3:Hid (jD w1 w5):=aY (y7 HO4.out ((jD.refl _).alloc _)) ((HG.out.trans HG4.out).alloc _) hgr;have HO3:=zh j8;obtain⟨va2,vc2,hvf2,hz1,hz2,hz3⟩:=jX j8;rw[List.length_append,HLM.out] at hvf2;subst hvf2;clear j8 hgr hnx hz1 hz2 hz3);go_roundw
   case rel=>
    refine⟨q+1,by omega,by go_num,?_⟩;show _∧_;rw[HSN.out,HX.out];exact⟨HO3.out,HG3.out⟩
   case measure=>simp[intOf];omega
  ·exact CH
theorem LJ {B:Nat} {q:zJ} {jB jC:Int} {κ:Nat→Nat} {x:BS} {w:World} (k n u:Int) (s:ByteArray) (a4:Option Addr) (n4 c4:Nat) (a5:Option Addr) (n5 c5:Nat) (hn:zO n) (hu:J4 u) (hs:s.size≤1048576) (hg:x.Good) (h:Bd B q jB jC κ x w):Calls prog 93 #[jI q.p,.agg #[.int .i64 k,.int .i64 n,.int .u64 u,.string s,.slice a4 n4 c4,.slice a5 n5 c5]] w fun r w'=>r=.returned (.tuple #[])∧kG B q jB jC κ (ZW jB jC k n u s x) w w':=by
 have HB:=zh h;have HG:=zh hg;have HN:Hid (-9223372036854775808≤n∧n≤9223372036854775807):=hn;have HU:Hid (0≤u∧u≤18446744073709551615):=hu;have HS:=zh hs;have jK:=heap_alloc_new w (.cells #[.int .i64 k,.int .i64 n,.int .u64 u,.string s,.slice a4 n4 c4,.slice a5 n5 c5] 26);have HGA:=zh ((jD.refl w).alloc (.cells #[.int .i64 k,.int .i64 n,.int .u64 u,.string s,.slice a4 n4 c4,.slice a5 n5 c5] 26));have g0:=jA jK 0 _ rfl;have g1:=jA jK 1 _ rfl;have g2:=jA jK 2 _ rfl;have g3:=jA jK 3 _ rfl;have g4:=jA jK 4 _ rfl;have g5:=jA jK 5 _ rfl;clear h hg hn hu hs jK;have hk10:k=1∨k=2∨k=3∨k=4∨k=8∨k=9∨k=5∨k=6∨k=7∨(k≠1∧k≠2∧k≠3∧k≠4∧k≠8∧k≠9∧k≠5∧k≠6∧k≠7):=by omega
 obtain rfl|rfl|rfl|rfl|rfl|rfl|rfl|rfl|rfl|⟨m1,m2,m3,m4,m8,m9,m5,m6,m7⟩:=hk10
 ·have HD:Hid (ZW jB jC 1 n u s x=x.inline (0,1,0)):=rfl;go_enter func93,ntmps93;go_wp2_with fail;refine (DR (HB.out.grew HGA.out)).mono ?_;rintro r w2 ⟨rfl,ht⟩;have HT2:=zh (ht.after HGA.out);clear ht;go_wp2;go_end0;exact⟨rfl,by rw[HD.out];exact HT2.out⟩
 ·have HD:Hid (ZW jB jC 2 n u s x=x.inline (yR (decide (n=1)))):=rfl;go_enter func93,ntmps93;go_wp2_with fail;refine (wW 2 n u s a4 n4 c4 a5 n5 c5 _).mono ?_;rintro r w1 ⟨rfl,hg1⟩;have HG1:=zh (HGA.out.trans hg1);obtain⟨ob,hob⟩:∃b,decide (n=1)=b:=⟨_,rfl⟩;rw[hob] at HD⊢;clear hg1 hob;go_wp2_with fail;refine (DS ob (HB.out.grew HG1.out)).mono ?_;rintro r w2 ⟨rfl,ht⟩;have HT2:=zh (ht.after HG1.out);clear ht;go_wp2;go_end0;exact⟨rfl,by rw[HD.out];exact HT2.out⟩
 ·have HD:Hid (ZW jB jC 3 n u s x=x.inline (qS n)):=rfl;go_enter func93,ntmps93;go_wp2_with fail;refine (GE n HN.out.1 HN.out.2 (HB.out.grew HGA.out)).mono ?_;rintro r w2 ⟨rfl,ht⟩;have HT2:=zh (ht.after HGA.out);clear ht;go_wp2;go_end0;exact⟨rfl,by rw[HD.out];exact HT2.out⟩
 ·have HD:Hid (ZW jB jC 4 n u s x=x.inline (qT u)):=rfl;go_enter func93,ntmps93;go_wp2_with fail;refine (DT u HU.out.1 HU.out.2 (HB.out.grew HGA.out)).mono ?_;rintro r w2 ⟨rfl,ht⟩;have HT2:=zh (ht.after HGA.out);clear ht;go_wp2;go_end0;exact⟨rfl,by rw[HD.out];exact HT2.out⟩
 ·have HD:Hid (ZW jB jC 8 n u s x=x.apart jB 6 (qS n)):=rfl;go_enter func93,ntmps93;go_wp2_with fail;refine (uK n HN.out.1 HN.out.2 (HB.out.grew HGA.out)).mono ?_;rintro r w2 ⟨rfl,ht⟩;have HT2:=zh (ht.after HGA.out);clear ht;go_wp2;go_end0;exact⟨rfl,by rw[HD.out];exact HT2.out⟩
 ·have HD:Hid (ZW jB jC 9 n u s x=x.apart jB 7 (qT u)):=rfl;go_enter func93,ntmps93;go_wp2_with fail;refine (rM u HU.out.1 HU.out.2 (HB.out.grew HGA.out)).mono ?_;rintro r w2 ⟨rfl,ht⟩;have HT2:=zh (ht.after HGA.out);clear ht;go_wp2;go_end0;exact⟨rfl,by rw[HD.out];exact HT2.out⟩
 ·have HD:Hid (ZW jB jC 5 n u s x=x.key jB (onF jC 1) s):=rfl;go_enter func93,ntmps93;go_wp2_with fail;refine (uN s HS.out HG.out (HB.out.grew HGA.out)).mono ?_;rintro r w2 ⟨rfl,ht⟩;have HT2:=zh (ht.after HGA.out);clear ht;go_wp2;go_end0;exact⟨rfl,by rw[HD.out];exact HT2.out⟩
 ·have HD:Hid (ZW jB jC 6 n u s x=x.str jB (onF jC 2) s):=rfl;go_enter func93,ntmps93;go_wp2_with fail;refine (GH s HS.out HG.out (HB.out.grew HGA.out)).mono ?_;rintro r w2 ⟨rfl,ht⟩;have HT2:=zh (ht.after HGA.out);clear ht;go_wp2;go_end0;exact⟨rfl,by rw[HD.out];exact HT2.out⟩
 ·have HD:Hid (ZW jB jC 7 n u s x=x.blob jB s):=rfl;go_enter func93,ntmps93;go_wp2_with fail;refine (DV s HS.out HG.out (HB.out.grew HGA.out)).mono ?_;rintro r w2 ⟨rfl,ht⟩;have HT2:=zh (ht.after HGA.out);clear ht;go_wp2;go_end0;exact⟨rfl,by rw[HD.out];exact HT2.out⟩
 ·have HD:Hid (ZW jB jC k n u s x=x):=by show _=_;unfold ZW;rw[if_neg m1,if_neg m2,if_neg m3,if_neg m4,if_neg m8,if_neg m9,if_neg m5,if_neg m6,if_neg m7]
  have q1:(k == 1)=false:=by simpa using m1
  have q2:(k == 2)=false:=by simpa using m2
  have q3:(k == 3)=false:=by simpa using m3
  have q4:(k == 4)=false:=by simpa using m4
  have q5:(k == 5)=false:=by simpa using m5
  have q6:(k == 6)=false:=by simpa using m6
  have q7:(k == 7)=false:=by simpa using m7
  have q8:(k == 8)=false:=by simpa using m8
  have q9:(k == 9)=false:=by simpa using m9
  clear m1 m2 m3 m4 m8 m9 m5 m6 m7;go_enter func93,ntmps93;go_wp2;go_end0;exact⟨rfl,by rw[HD.out];exact (HB.out.grew HGA.out).refl.after HGA.out⟩
section
variable {B:Nat} {q:zJ} {jB jC:Int} {κ κ0:Nat→Nat} {x y:BS} {W w w0:World} {Kp:List (Nat × Obj)}
theorem Env.old (h0:Bd B q jB jC κ0 y w0) (hW:jD W w0) (hB:W.heap.size≤B) (h:Env B q jB jC w0 κ0 Kp x w):jD W w:=by
 obtain⟨κ,_,h2,_⟩:=h;exact Moved.fresh hW h2.1 (fun g hg=>Nat.le_trans hB (h0.lt g hg).1)
theorem LK (h:Bd B q jB jC κ x w):Calls prog 87 #[jI q.p] w fun r w'=>r=.returned (.int .i64 x.stk.length)∧w'=w:=by
 have HB:=zh h;clear h;go_enter func87,ntmps87;go_wp2_with fail;refine (uH HB.out).mono ?_;rintro r w' ⟨rfl,rfl⟩;go_wp2;go_ret;exact⟨rfl,rfl⟩
theorem LL (h:Bd B q jB jC κ x w):Calls prog 89 #[jI q.p] w fun r w'=>r=.returned (.int .i64 x.stk.length)∧w'=w:=by
 have HB:=zh h;clear h;go_enter func89,ntmps89;go_wp2_with fail;refine (uH HB.out).mono ?_;rintro r w' ⟨rfl,rfl⟩;go_wp2;go_ret;exact⟨rfl,rfl⟩
end
theorem LM {jB jC n u:Int} {s:ByteArray} {keys:List ByteArray} {l:List Tr} {x:BS}:kT jB jC (.mk 10 n u s keys l) x=(y6 jB jC l x).endVec jB x.stk.length:=by simp only[kT];rfl
theorem LN {jB jC n u:Int} {s:ByteArray} {keys:List ByteArray} {l:List Tr} {x:BS}:kT jB jC (.mk 17 n u s keys l) x=(qQ jB jC l keys x).endMap jB (onF jC 4) x.stk.length:=by simp only[kT];rfl
theorem LO {jB jC n u:Int} {s:ByteArray} {keys:List ByteArray} {l:List Tr} {x:BS}:kT jB jC (.mk 11 n u s keys l) x=x.vector jB 1 0 ((l.map Tr.fn).map qS):=by simp only[kT,List.map_map];rfl
theorem LP {jB jC n u:Int} {s:ByteArray} {keys:List ByteArray} {l:List Tr} {x:BS}:kT jB jC (.mk 12 n u s keys l) x=x.vector jB 2 0 ((l.map Tr.fu).map qT):=by simp only[kT,List.map_map];rfl
theorem LQ {jB jC n u:Int} {s:ByteArray} {keys:List ByteArray} {l:List Tr} {x:BS}:kT jB jC (.mk 14 n u s keys l) x=x.vector jB 26 0 ((l.map fun t=>decide (t.fn=1)).map yR):=by simp only[kT,List.map_map];rfl
theorem LR {jB jC n u:Int} {s:ByteArray} {keys:List ByteArray} {l:List Tr} {x:BS}:kT jB jC (.mk 13 n u s keys l) x=x.keyVec jB (onF jC 1) (l.map Tr.fs):=by simp only[kT];rfl
theorem LS {jB jC n u:Int} {s:ByteArray} {keys:List ByteArray} {l:List Tr} {x:BS}:kT jB jC (.mk 15 n u s keys l) x=x.fixed jB 1 ((l.map Tr.fn).map qS):=by simp only[kT,List.map_map];rfl
theorem LT {jB jC n u:Int} {s:ByteArray} {keys:List ByteArray} {l:List Tr} {x:BS}:kT jB jC (.mk 16 n u s keys l) x=x.fixed jB 2 ((l.map Tr.fu).map qT):=by simp only[kT,List.map_map];rfl
theorem BI {jB jC k n u:Int} {s:ByteArray} {keys:List ByteArray} {l:List Tr} {x:BS} (h:k≠11∧k≠12∧k≠14∧k≠13∧k≠15∧k≠16∧k≠10∧k≠17):kT jB jC (.mk k n u s keys l) x=ZW jB jC k n u s x:=by
 obtain⟨h1,h2,h3,h4,h5,h6,h7,h8⟩:=h;simp only[kT,if_neg h1,if_neg h2,if_neg h3,if_neg h4,if_neg h5,if_neg h6,if_neg h7,if_neg h8]
theorem ER {B:Nat} {q:zJ} {jB jC:Int} {κ:Nat→Nat} {x:BS} {W w:World} (n1 n2:Nat) (k n u:Int) (s:ByteArray) (kb ko:Nat) (keys:List ByteArray) (c4:Nat) (lb lo:Nat) (l:List Tr) (c5:Nat) (i:Nat) (key:ByteArray) (t:Tr) (xk xn xu:Int) (xs:ByteArray) (xa4:Option Addr) (xn4 xc4:Nat) (xa5:Option Addr) (xn5 xc5:Nat) (hWB:W.heap.size≤B) (hW:jD W w) (hik:i < keys.length) (hil:i < l.length) (hkl:keys.length≤4096) (hll:l.length≤4096) (hck:W.cell? ⟨kb,ko+i,none⟩=some (.string key)) (hkz:key.size≤1048576) (hc6:yQ W lb (lo+i*6) (.agg #[.int .i64 xk,.int .i64 xn,.int .u64 xu,.string xs,.slice xa4 xn4 xc4,.slice xa5 xn5 xc5])) (ih:∀(κ1:Nat→Nat) (y:BS) (w1:World),jD W w1→y.Good→Bd B q jB jC κ1 y w1→Calls prog 46 #[jI q.p,.agg #[.int .i64 xk,.int .i64 xn,.int .u64 xu,.string xs,.slice xa4 xn4 xc4,.slice xa5 xn5 xc5]] w1 fun r w'=>r=.returned (.tuple #[])∧kG B q jB jC κ1 (kT jB jC t y) w1 w') (hg:x.Good) (hb:Bd B q jB jC κ x w) (he:Env B q jB jC w κ [(n2,Obj.cells #[.int .i64 k,.int .i64 n,.int .u64 u,.string s,.slice (some ⟨kb,ko,none⟩) keys.length c4,.slice (some ⟨lb,lo,none⟩) l.length c5] 26 (0,0)),(n1,Obj.cells #[jI q.p] 70 (0,0))] x w):Calls prog 90 #[.int .i64 i,.pointer (some ⟨n1,0,none⟩),.pointer (some ⟨n2,0,none⟩)] w fun r w'=>r=.returned (.tuple #[])∧kG B q jB jC κ (kT jB jC t (x.key jB (onF jC 1) key)) w w':=by
 have HE:=zh he;have HB:=zh hb;have HG:=zh hg;have HGK:Hid ((x.key jB (onF jC 1) key).Good):=hg.key;have HKZ:=zh hkz;have HWB:=zh hWB;have HGW:=zh hW;have HIH:=zh ih;have HC6:=zh hc6;have HM2:Hid ((n2,Obj.cells #[.int .i64 k,.int .i64 n,.int .u64 u,.string s,.slice (some ⟨kb,ko,none⟩) keys.length c4,.slice (some ⟨lb,lo,none⟩) l.length c5] 26 (0,0))∈([(n2,Obj.cells #[.int .i64 k,.int .i64 n,.int .u64 u,.string s,.slice (some ⟨kb,ko,none⟩) keys.length c4,.slice (some ⟨lb,lo,none⟩) l.length c5] 26 (0,0)),(n1,Obj.cells #[jI q.p] 70 (0,0))]:List (Nat × Obj))):=List.mem_cons_self;have HM1:Hid ((n1,Obj.cells #[jI q.p] 70 (0,0))∈([(n2,Obj.cells #[.int .i64 k,.int .i64 n,.int .u64 u,.string s,.slice (some ⟨kb,ko,none⟩) keys.length c4,.slice (some ⟨lb,lo,none⟩) l.length c5] 26 (0,0)),(n1,Obj.cells #[jI q.p] 70 (0,0))]:List (Nat × Obj))):=List.mem_cons_of_mem _ List.mem_cons_self;have cb:=Env.cell he HM1.out 0 _ rfl;have f4:=Env.cell he HM2.out 4 _ rfl;have ck:=hW.cell hck;have hiki:(i:Int) < keys.length:=by omega
 have hili:(i:Int) < l.length:=by omega
 clear he hb hg hkz hWB hW ih hc6 hck hik hil;go_enter func90,ntmps90;go_wp2_with fail;refine zZ jD 6 [[],[],[1],[],[1,2,3],[1,2,3,4],[0,1,2,3,4,5]] [[(5,1),(6,2),(7,3),(8,4),(9,5)],[(4,0),(7,3)],[(4,0),(5,1),(7,3)],[(4,0),(5,1),(6,2)],[(4,0),(5,1),(6,2),(7,3)],[(4,0),(5,1),(6,2),(7,3),(8,4)],[(4,0),(5,1),(6,2),(7,3),(8,4),(9,5)]] [(4,0),(5,1),(6,2),(7,3),(8,4),(9,5)]
  [Is (jI q.p),Is (.pointer (some ⟨n2,4,none⟩)),Is (.slice (some ⟨kb,ko,none⟩) keys.length c4),Is (.int .i64 i),Is (.pointer (some ⟨kb,ko+i,none⟩)),Is (.string key)]
  zk jD.trans jD.refl (jD.refl _).drew zk ⟨jL,jL,jL,jL,jL,jL,trivial⟩ rfl ?_ ?_
 rotate_left
 ·intro y w2 hG hF;simp only[z6,Is,and_true,Nat.reduceAdd] at hF;have h0:=hF.1;have h1:=hF.2.1;have h2:=hF.2.2.1;have h3:=hF.2.2.2.1;have h4:=hF.2.2.2.2.1;have h5:=hF.2.2.2.2.2;clear hF;simp only[jF,Act.put,zq,List.drop_succ_cons,List.drop_zero];simp only[h0,h1,h2,h3,h4,h5];clear h0 h1 h2 h3 h4 h5;have HW1:=zh (HE.out.grew hG);clear hG cb f4 ck;go_wp2_with fail;refine (HW1.out.call fun κ1 hb hz=>uN key HKZ.out HG.out hb).mono ?_;rintro r w3 ⟨rfl,he⟩;have HEV:=zh he;have HGW4:=zh (Env.old HB.out HGW.out HWB.out he);have cb:=Env.cell he HM1.out 0 _ rfl;have f5:=Env.cell he HM2.out 5 _ rfl;obtain⟨e0,e1,e2,e3,e4,e5⟩:=(HC6.out.grew HGW4.out).get;clear he;go_wp2_with fail;refine zZ jD 6 [[],[],[1],[],[1,2,3],[1,2,3,4],[0,1,2,3,4,5]] [[(12,1),(13,2),(14,3),(15,4),(16,5)],[(11,0),(14,3)],[(11,0),(12,1),(14,3)],[(11,0),(12,1),(13,2)],[(11,0),(12,1),(13,2),(14,3)],[(11,0),(12,1),(13,2),(14,3),(15,4)],[(11,0),(12,1),(13,2),(14,3),(15,4),(16,5)]] [(11,0),(12,1),(13,2),(14,3),(15,4),(16,5)]
   [Is (jI q.p),Is (.pointer (some ⟨n2,5,none⟩)),Is (.slice (some ⟨lb,lo,none⟩) l.length c5),Is (.int .i64 i),Is (.pointer (some ⟨lb,lo+i*6,none⟩)),Is (.agg #[.int .i64 xk,.int .i64 xn,.int .u64 xu,.string xs,.slice xa4 xn4 xc4,.slice xa5 xn5 xc5])]
   zk jD.trans jD.refl (jD.refl _).drew zk ⟨jL,jL,jL,jL,jL,jL,trivial⟩ rfl ?_ ?_
  rotate_left
  ·intro y w2 hG hF;simp only[z6,Is,and_true,Nat.reduceAdd] at hF;have h0:=hF.1;have h1:=hF.2.1;have h2:=hF.2.2.1;have h3:=hF.2.2.2.1;have h4:=hF.2.2.2.2.1;have h5:=hF.2.2.2.2.2;clear hF;simp only[jF,Act.put,zq,List.drop_succ_cons,List.drop_zero];simp only[h0,h1,h2,h3,h4,h5];clear h0 h1 h2 h3 h4 h5;have HW5:=zh (HEV.out.grew hG);have HGW5:=zh (HGW4.out.trans hG);clear hG;go_wp2_with fail;refine (HW5.out.call fun κ1 hb hz=>HIH.out κ1 _ w2 HGW5.out HGK.out hb).mono ?_;rintro r w3 ⟨rfl,he⟩;have HT:=zh he;clear he;go_wp2;go_end0;exact⟨rfl,HT.out.turn⟩
  refine⟨?_,?_⟩
  ·exact fY
  refine⟨zst,?_⟩;refine⟨?_,?_⟩
  ·intro y w2 hG hD K hK;have df5:=hG.cell f5;exact zsr
  refine⟨zst,zst,?_⟩;refine⟨?_,?_⟩
  ·intro y w2 hG hD K hK;have de0:=hG.cell e0;have de1:=hG.cell e1;have de2:=hG.cell e2;have de3:=hG.cell e3;have de4:=hG.cell e4;have de5:=hG.cell e5;exact zsr
  trivial
 refine⟨?_,?_⟩
 ·exact fY
 refine⟨zst,?_⟩;refine⟨?_,?_⟩
 ·intro y w2 hG hD K hK;have df4:=hG.cell f4;exact zsr
 refine⟨zst,zst,?_⟩;refine⟨?_,?_⟩
 ·intro y w2 hG hD K hK;have dck:=hG.cell ck;exact zsr
 trivial
theorem ES {B:Nat} {q:zJ} {jB jC:Int} {W:World} (hWB:W.heap.size≤B):∀(m:Nat) (t:Tr),t.size≤m→∀(v:Value) (κ:Nat→Nat) (x:BS) (w:World),jM W t v→okE t→jD W w→x.Good→Bd B q jB jC κ x w→Calls prog 46 #[jI q.p,v] w fun r w'=>r=.returned (.tuple #[])∧kG B q jB jC κ (kT jB jC t x) w w':=by
 have HWB:=zh hWB;clear hWB;intro m
 induction m with
 | zero=>intro t ht;have:=t.size_pos;omega
 | succ m ih=>
  intro t ht v κ x w hn hok hW hg h;obtain⟨k,n,u,s,keys,l⟩:=t;have hrg:=l7 hn;simp only[jM] at hn;obtain⟨hb,kv,lv,vs,rfl,hks,qX,yC⟩:=hn;have hkl:vs.length=l.length:=yC.length;obtain⟨⟨o1,o2,o3,o4⟩,o5⟩:=hok;have ho5:=okEL_iff.1 o5;have hrl:=rngL_iff.1 hrg.2;obtain⟨rn,ru⟩:=hrg.1;have HKS:=zh hks;have HK:=zh yC;obtain⟨a4,c4,rfl,hx1,hx2,hx3,hx4⟩:=hks;clear hx1 hx2 hx3 hx4;have k7:=zh qX;obtain⟨a5,c5,rfl,hx1,hc5,hx3,hx4⟩:=qX;clear hx1 hx3 hx4;rw[hkl] at k7⊢;have HSZ:Hid (∀x∈l,x.size≤m):=fun x hx=>by have:=ZO hx;simp only[Tr.size] at ht;omega
  have HOK:=zh ho5;have HRL:=zh hrl;have HB:=zh h;have HG:=zh hg;have HGW:=zh hW;have HZ:=zh (And.intro o1 (And.intro o2 o4));have HLL:=zh o3;have HRN:=zh (And.intro rn ru);have HIH:=zh ih;obtain⟨N,hN⟩:∃N,w.heap.size=N:=⟨_,rfl⟩
  have HE:Hid (Env B q jB jC w κ [(N+1,Obj.cells #[.int .i64 k,.int .i64 n,.int .u64 u,.string s,.slice a4 keys.length c4,.slice a5 l.length c5] 26 (0,0)),(N,Obj.cells #[jI q.p] 70 (0,0))] x ((w.alloc (.cells #[jI q.p] 70)).alloc (.cells #[.int .i64 k,.int .i64 n,.int .u64 u,.string s,.slice a4 keys.length c4,.slice a5 l.length c5] 26))):=by
   have hh:=((Env.start h).add (.cells #[jI q.p] 70)).add (.cells #[.int .i64 k,.int .i64 n,.int .u64 u,.string s,.slice a4 keys.length c4,.slice a5 l.length c5] 26);simp only[World.size_alloc,Nat.add_assoc,Nat.reduceAdd,hN] at hh;exact hh
  have HG0:Hid (jD w ((w.alloc (.cells #[jI q.p] 70)).alloc (.cells #[.int .i64 k,.int .i64 n,.int .u64 u,.string s,.slice a4 keys.length c4,.slice a5 l.length c5] 26))):=((jD.refl w).alloc _).alloc _;have HM2:Hid ((N+1,Obj.cells #[.int .i64 k,.int .i64 n,.int .u64 u,.string s,.slice a4 keys.length c4,.slice a5 l.length c5] 26 (0,0))∈([(N+1,Obj.cells #[.int .i64 k,.int .i64 n,.int .u64 u,.string s,.slice a4 keys.length c4,.slice a5 l.length c5] 26 (0,0)),(N,Obj.cells #[jI q.p] 70 (0,0))]:List (Nat × Obj))):=List.mem_cons_self;have HM1:Hid ((N,Obj.cells #[jI q.p] 70 (0,0))∈([(N+1,Obj.cells #[.int .i64 k,.int .i64 n,.int .u64 u,.string s,.slice a4 keys.length c4,.slice a5 l.length c5] 26 (0,0)),(N,Obj.cells #[jI q.p] 70 (0,0))]:List (Nat × Obj))):=List.mem_cons_of_mem _ List.mem_cons_self;have cb:=Env.cell HE.out HM1.out 0 _ rfl;have g0:=Env.cell HE.out HM2.out 0 _ rfl;have g1:=Env.cell HE.out HM2.out 1 _ rfl;have g2:=Env.cell HE.out HM2.out 2 _ rfl;have g3:=Env.cell HE.out HM2.out 3 _ rfl;have g4:=Env.cell HE.out HM2.out 4 _ rfl;have g5:=Env.cell HE.out HM2.out 5 _ rfl;have HNN:=zh hN;clear h hg hW ih o1 o2 o4 o5 ho5 hrl hrg hb rn ru yC hkl hc5 ht;have hk9:k=11∨k=12∨k=14∨k=13∨k=15∨k=16∨k=10∨k=17∨(k≠11∧k≠12∧k≠14∧k≠13∧k≠15∧k≠16∧k≠10∧k≠17):=by omega
  obtain rfl|rfl|rfl|rfl|rfl|rfl|rfl|rfl|hkn:=hk9
  ·have HD:Hid (kT jB jC (.mk 11 n u s keys l) x=_):=LO
   have HRG:Hid (∀x∈l.map Tr.fn,-9223372036854775808≤x∧x≤9223372036854775807):=fun x hx=>by
    obtain⟨z,hz,rfl⟩:=List.mem_map.1 hx;have:=HRL.out z hz;cases z;exact this.1.1
   have HLN:Hid ((l.map Tr.fn).length≤1048576):=by show _≤_;rw[List.length_map];have:=HLL.out;omega
   obtain⟨M,hM⟩:∃M,l.map Tr.fn=M:=⟨_,rfl⟩;rw[hM] at HD HRG HLN;have HMV:=zh hM;clear hM;go_enter func46,ntmps46;go_wp2_with fail;generalize ((w.alloc (.cells #[jI q.p] 70)).alloc (.cells #[.int .i64 11,.int .i64 n,.int .u64 u,.string s,.slice a4 keys.length c4,.slice a5 l.length c5] 26))=wb at *;refine zZ jD 3 [[],[],[1],[0,1,2]] [[(18,1),(19,2)],[(17,0)],[(17,0),(18,1)],[(17,0),(18,1),(19,2)]] [(17,0),(18,1),(19,2)]
    [Is (jI q.p),Is (.agg #[.int .i64 11,.int .i64 n,.int .u64 u,.string s,.slice a4 keys.length c4,.slice a5 l.length c5]),fun v w=>zY (fun x=>.int .i64 x) w v M]
    zk jD.trans jD.refl (jD.refl _).drew zk ⟨jL,jL,fun _ _ _ hg h=>zY.grew h hg,trivial⟩ rfl ?_ ?_
   rotate_left
   ·intro y w2 hG hF;simp only[z6,Is,and_true,Nat.reduceAdd] at hF;have h0:=hF.1;have h1:=hF.2.1;have h2:=hF.2.2;clear hF;simp only[jF,Act.put,zq,List.drop_succ_cons,List.drop_zero];simp only[h0,h1];clear h0 h1;have HG5:=zh (HG0.out.trans hG);have HC:=zh h2;obtain⟨va,vc,hvv,_⟩:=h2;rw[hvv] at HC⊢;clear hG hvv;go_wp2_with fail;refine (DW M _ HC.out HRG.out HLN.out HG.out (HB.out.grew HG5.out)).mono ?_;rintro r w3 ⟨rfl,ht⟩;have HT:=zh (ht.after HG5.out);clear ht;go_wp2;go_end0;exact⟨rfl,by rw[HD.out];exact HT.out⟩
   refine⟨?_,?_⟩
   ·exact fY
   refine⟨?_,?_⟩
   ·exact pE
   refine⟨?_,?_⟩
   ·intro y w2 hG hD K hK;simp only[kO,zq4,zq5,Is,and_true] at hD;simp only[jF,Act.put,zq,Is] at hK⊢;simp only[hD] at hK⊢;clear hD;refine jO ?_;go_simp;refine (pC 11 n u s a4 keys.length c4 a5 c5 l vs w2 (k7.out.grew (HGW.out.trans (HG0.out.trans hG))) (HK.out.grew (HGW.out.trans (HG0.out.trans hG))) HLL.out).mono ?_;rintro r w3 ⟨v',rfl,ho,hg3⟩;exact hK _ _ _ rfl hg3 zp18
   trivial
  ·have HD:Hid (kT jB jC (.mk 12 n u s keys l) x=_):=LP
   have HRG:Hid (∀x∈l.map Tr.fu,0≤x∧x≤18446744073709551615):=fun x hx=>by
    obtain⟨z,hz,rfl⟩:=List.mem_map.1 hx;have:=HRL.out z hz;cases z;exact this.1.2
   have HLN:Hid ((l.map Tr.fu).length≤1048576):=by show _≤_;rw[List.length_map];have:=HLL.out;omega
   obtain⟨M,hM⟩:∃M,l.map Tr.fu=M:=⟨_,rfl⟩;rw[hM] at HD HRG HLN;have HMV:=zh hM;clear hM;go_enter func46,ntmps46;go_wp2_with fail;generalize ((w.alloc (.cells #[jI q.p] 70)).alloc (.cells #[.int .i64 12,.int .i64 n,.int .u64 u,.string s,.slice a4 keys.length c4,.slice a5 l.length c5] 26))=wb at *;refine zZ jD 3 [[],[],[1],[0,1,2]] [[(24,1),(25,2)],[(23,0)],[(23,0),(24,1)],[(23,0),(24,1),(25,2)]] [(23,0),(24,1),(25,2)]
    [Is (jI q.p),Is (.agg #[.int .i64 12,.int .i64 n,.int .u64 u,.string s,.slice a4 keys.length c4,.slice a5 l.length c5]),fun v w=>zY (fun x=>.int .u64 x) w v M]
    zk jD.trans jD.refl (jD.refl _).drew zk ⟨jL,jL,fun _ _ _ hg h=>zY.grew h hg,trivial⟩ rfl ?_ ?_
   rotate_left
   ·intro y w2 hG hF;simp only[z6,Is,and_true,Nat.reduceAdd] at hF;have h0:=hF.1;have h1:=hF.2.1;have h2:=hF.2.2;clear hF;simp only[jF,Act.put,zq,List.drop_succ_cons,List.drop_zero];simp only[h0,h1];clear h0 h1;have HG5:=zh (HG0.out.trans hG);have HC:=zh h2;obtain⟨va,vc,hvv,_⟩:=h2;rw[hvv] at HC⊢;clear hG hvv;go_wp2_with fail;refine (AQ M _ HC.out HRG.out HLN.out HG.out (HB.out.grew HG5.out)).mono ?_;rintro r w3 ⟨rfl,ht⟩;have HT:=zh (ht.after HG5.out);clear ht;go_wp2;go_end0;exact⟨rfl,by rw[HD.out];exact HT.out⟩
   refine⟨?_,?_⟩
   ·exact fY
   refine⟨?_,?_⟩
   ·exact pE
   refine⟨?_,?_⟩
   ·intro y w2 hG hD K hK;simp only[kO,zq4,zq5,Is,and_true] at hD;simp only[jF,Act.put,zq,Is] at hK⊢;simp only[hD] at hK⊢;clear hD;refine jO ?_;go_simp;refine (pD 12 n u s a4 keys.length c4 a5 c5 l vs w2 (k7.out.grew (HGW.out.trans (HG0.out.trans hG))) (HK.out.grew (HGW.out.trans (HG0.out.trans hG))) HLL.out).mono ?_;rintro r w3 ⟨v',rfl,ho,hg3⟩;exact hK _ _ _ rfl hg3 zp18
   trivial
  ·have HD:Hid (kT jB jC (.mk 14 n u s keys l) x=_):=LQ
   have HRG:Hid (∀x∈l.map (fun t=>decide (t.fn=1)),True):=fun x hx=>by
    trivial
   have HLN:Hid ((l.map (fun t=>decide (t.fn=1))).length≤1048576):=by show _≤_;rw[List.length_map];have:=HLL.out;omega
   obtain⟨M,hM⟩:∃M,l.map (fun t=>decide (t.fn=1))=M:=⟨_,rfl⟩;rw[hM] at HD HRG HLN;have HMV:=zh hM;clear hM;go_enter func46,ntmps46;go_wp2_with fail;generalize ((w.alloc (.cells #[jI q.p] 70)).alloc (.cells #[.int .i64 14,.int .i64 n,.int .u64 u,.string s,.slice a4 keys.length c4,.slice a5 l.length c5] 26))=wb at *;refine zZ jD 3 [[],[],[1],[0,1,2]] [[(30,1),(31,2)],[(29,0)],[(29,0),(30,1)],[(29,0),(30,1),(31,2)]] [(29,0),(30,1),(31,2)]
    [Is (jI q.p),Is (.agg #[.int .i64 14,.int .i64 n,.int .u64 u,.string s,.slice a4 keys.length c4,.slice a5 l.length c5]),fun v w=>zY (fun x=>.bool x) w v M]
    zk jD.trans jD.refl (jD.refl _).drew zk ⟨jL,jL,fun _ _ _ hg h=>zY.grew h hg,trivial⟩ rfl ?_ ?_
   rotate_left
   ·intro y w2 hG hF;simp only[z6,Is,and_true,Nat.reduceAdd] at hF;have h0:=hF.1;have h1:=hF.2.1;have h2:=hF.2.2;clear hF;simp only[jF,Act.put,zq,List.drop_succ_cons,List.drop_zero];simp only[h0,h1];clear h0 h1;have HG5:=zh (HG0.out.trans hG);have HC:=zh h2;obtain⟨va,vc,hvv,_⟩:=h2;rw[hvv] at HC⊢;clear hG hvv;go_wp2_with fail;refine (AR M _ HC.out HRG.out HLN.out HG.out (HB.out.grew HG5.out)).mono ?_;rintro r w3 ⟨rfl,ht⟩;have HT:=zh (ht.after HG5.out);clear ht;go_wp2;go_end0;exact⟨rfl,by rw[HD.out];exact HT.out⟩
   refine⟨?_,?_⟩
   ·exact fY
   refine⟨?_,?_⟩
   ·exact pE
   refine⟨?_,?_⟩
   ·intro y w2 hG hD K hK;simp only[kO,zq4,zq5,Is,and_true] at hD;simp only[jF,Act.put,zq,Is] at hK⊢;simp only[hD] at hK⊢;clear hD;refine jO ?_;go_simp;refine (EP 14 n u s a4 keys.length c4 a5 c5 l vs w2 (k7.out.grew (HGW.out.trans (HG0.out.trans hG))) (HK.out.grew (HGW.out.trans (HG0.out.trans hG))) HLL.out).mono ?_;rintro r w3 ⟨v',rfl,ho,hg3⟩;exact hK _ _ _ rfl hg3 zp18
   trivial
  ·have HD:Hid (kT jB jC (.mk 13 n u s keys l) x=_):=LR
   have HRG:Hid (∀x∈l.map Tr.fs,x.size≤1048576):=fun x hx=>by
    obtain⟨z,hz,rfl⟩:=List.mem_map.1 hx;have:=HOK.out z hz;cases z;exact this.1.1
   have HLN:Hid ((l.map Tr.fs).length≤1048576):=by show _≤_;rw[List.length_map];have:=HLL.out;omega
   obtain⟨M,hM⟩:∃M,l.map Tr.fs=M:=⟨_,rfl⟩;rw[hM] at HD HRG HLN;have HMV:=zh hM;clear hM;go_enter func46,ntmps46;go_wp2_with fail;generalize ((w.alloc (.cells #[jI q.p] 70)).alloc (.cells #[.int .i64 13,.int .i64 n,.int .u64 u,.string s,.slice a4 keys.length c4,.slice a5 l.length c5] 26))=wb at *;refine zZ jD 3 [[],[],[1],[0,1,2]] [[(36,1),(37,2)],[(35,0)],[(35,0),(36,1)],[(35,0),(36,1),(37,2)]] [(35,0),(36,1),(37,2)]
    [Is (jI q.p),Is (.agg #[.int .i64 13,.int .i64 n,.int .u64 u,.string s,.slice a4 keys.length c4,.slice a5 l.length c5]),fun v w=>∃Wr,jD wb Wr∧jD Wr w∧w.ownsRow Wr.heap.size 9 1 v M.length (M.map fun x=>.string x)]
    zk jD.trans jD.refl (jD.refl _).drew zk ⟨jL,jL,fun _ _ _ hg ⟨Wr,h1,h2,h3⟩=>⟨Wr,h1,h2.trans hg,y7 h3 hg⟩,trivial⟩ rfl ?_ ?_
   rotate_left
   ·intro y w2 hG hF;simp only[z6,Is,and_true,Nat.reduceAdd] at hF;have h0:=hF.1;have h1:=hF.2.1;have h2:=hF.2.2;clear hF;simp only[jF,Act.put,zq,List.drop_succ_cons,List.drop_zero];simp only[h0,h1];clear h0 h1;have HG5:=zh (HG0.out.trans hG);obtain⟨Wr,hgr,hgr2,hro⟩:=h2;have HGR:=zh (HG0.out.trans hgr);have HGR2:=zh hgr2;have HRO:=zh hro;obtain⟨va,vc,hvv,hz1,hz2,hz3⟩:=jX hro;rw[hvv] at HRO⊢;clear hG hvv hgr hgr2 hro hz1 hz2 hz3;obtain⟨ml,hml⟩:∃ml,M.length=ml:=⟨_,rfl⟩;rw[hml];have HML:=zh hml;clear hml;go_wp2_with fail;refine (by have h:=DY va vc M (dN HRO.out) (wV (HB.out.grew HGR.out) HRO.out) HRG.out HLN.out HG.out (HB.out.grew HG5.out);rw[HML.out] at h;exact h:Calls prog 82 #[jI q.p,.slice va ml vc] w2 fun r w'=>r=.returned (.tuple #[])∧kG B q jB jC κ (x.keyVec jB (onF jC 1) M) w2 w').mono ?_;rintro r w3 ⟨rfl,ht⟩;have HT:=zh (ht.after HG5.out);clear ht;go_wp2;go_end0;exact⟨rfl,by rw[HD.out];exact HT.out⟩
   refine⟨?_,?_⟩
   ·exact fY
   refine⟨?_,?_⟩
   ·exact pE
   refine⟨?_,?_⟩
   ·intro y w2 hG hD K hK;simp only[kO,zq4,zq5,Is,and_true] at hD;simp only[jF,Act.put,zq,Is] at hK⊢;simp only[hD] at hK⊢;clear hD;refine jO ?_;go_simp;refine (EQ 13 n u s a4 keys.length c4 a5 c5 l vs w2 (k7.out.grew (HGW.out.trans (HG0.out.trans hG))) (HK.out.grew (HGW.out.trans (HG0.out.trans hG))) HLL.out).mono ?_;rintro r w3 ⟨v',rfl,ho,hg3⟩;exact hK _ _ _ rfl hg3 ⟨w2,hG,hg3,by rw[← HMV.out];exact ho⟩
   trivial
  ·have HD:Hid (kT jB jC (.mk 15 n u s keys l) x=_):=LS
   have HRG:Hid (∀x∈l.map Tr.fn,-9223372036854775808≤x∧x≤9223372036854775807):=fun x hx=>by
    obtain⟨z,hz,rfl⟩:=List.mem_map.1 hx;have:=HRL.out z hz;cases z;exact this.1.1
   have HLN:Hid ((l.map Tr.fn).length≤1048576):=by show _≤_;rw[List.length_map];have:=HLL.out;omega
   obtain⟨M,hM⟩:∃M,l.map Tr.fn=M:=⟨_,rfl⟩;rw[hM] at HD HRG HLN;have HMV:=zh hM;clear hM;go_enter func46,ntmps46;go_wp2_with fail;generalize ((w.alloc (.cells #[jI q.p] 70)).alloc (.cells #[.int .i64 15,.int .i64 n,.int .u64 u,.string s,.slice a4 keys.length c4,.slice a5 l.length c5] 26))=wb at *;refine zZ jD 3 [[],[],[1],[0,1,2]] [[(42,1),(43,2)],[(41,0)],[(41,0),(42,1)],[(41,0),(42,1),(43,2)]] [(41,0),(42,1),(43,2)]
    [Is (jI q.p),Is (.agg #[.int .i64 15,.int .i64 n,.int .u64 u,.string s,.slice a4 keys.length c4,.slice a5 l.length c5]),fun v w=>zY (fun x=>.int .i64 x) w v M]
    zk jD.trans jD.refl (jD.refl _).drew zk ⟨jL,jL,fun _ _ _ hg h=>zY.grew h hg,trivial⟩ rfl ?_ ?_
   rotate_left
   ·intro y w2 hG hF;simp only[z6,Is,and_true,Nat.reduceAdd] at hF;have h0:=hF.1;have h1:=hF.2.1;have h2:=hF.2.2;clear hF;simp only[jF,Act.put,zq,List.drop_succ_cons,List.drop_zero];simp only[h0,h1];clear h0 h1;have HG5:=zh (HG0.out.trans hG);have HC:=zh h2;obtain⟨va,vc,hvv,_⟩:=h2;rw[hvv] at HC⊢;clear hG hvv;go_wp2_with fail;refine (rN M _ HC.out HRG.out HLN.out HG.out (HB.out.grew HG5.out)).mono ?_;rintro r w3 ⟨rfl,ht⟩;have HT:=zh (ht.after HG5.out);clear ht;go_wp2;go_end0;exact⟨rfl,by rw[HD.out];exact HT.out⟩
   refine⟨?_,?_⟩
   ·exact fY
   refine⟨?_,?_⟩
   ·exact pE
   refine⟨?_,?_⟩
   ·intro y w2 hG hD K hK;simp only[kO,zq4,zq5,Is,and_true] at hD;simp only[jF,Act.put,zq,Is] at hK⊢;simp only[hD] at hK⊢;clear hD;refine jO ?_;go_simp;refine (pC 15 n u s a4 keys.length c4 a5 c5 l vs w2 (k7.out.grew (HGW.out.trans (HG0.out.trans hG))) (HK.out.grew (HGW.out.trans (HG0.out.trans hG))) HLL.out).mono ?_;rintro r w3 ⟨v',rfl,ho,hg3⟩;exact hK _ _ _ rfl hg3 zp18
   trivial
  ·have HD:Hid (kT jB jC (.mk 16 n u s keys l) x=_):=LT
   have HRG:Hid (∀x∈l.map Tr.fu,0≤x∧x≤18446744073709551615):=fun x hx=>by
    obtain⟨z,hz,rfl⟩:=List.mem_map.1 hx;have:=HRL.out z hz;cases z;exact this.1.2
   have HLN:Hid ((l.map Tr.fu).length≤1048576):=by show _≤_;rw[List.length_map];have:=HLL.out;omega
   obtain⟨M,hM⟩:∃M,l.map Tr.fu=M:=⟨_,rfl⟩;rw[hM] at HD HRG HLN;have HMV:=zh hM;clear hM;go_enter func46,ntmps46;go_wp2_with fail;generalize ((w.alloc (.cells #[jI q.p] 70)).alloc (.cells #[.int .i64 16,.int .i64 n,.int .u64 u,.string s,.slice a4 keys.length c4,.slice a5 l.length c5] 26))=wb at *;refine zZ jD 3 [[],[],[1],[0,1,2]] [[(48,1),(49,2)],[(47,0)],[(47,0),(48,1)],[(47,0),(48,1),(49,2)]] [(47,0),(48,1),(49,2)]
    [Is (jI q.p),Is (.agg #[.int .i64 16,.int .i64 n,.int .u64 u,.string s,.slice a4 keys.length c4,.slice a5 l.length c5]),fun v w=>zY (fun x=>.int .u64 x) w v M]
    zk jD.trans jD.refl (jD.refl _).drew zk ⟨jL,jL,fun _ _ _ hg h=>zY.grew h hg,trivial⟩ rfl ?_ ?_
   rotate_left
   ·intro y w2 hG hF;simp only[z6,Is,and_true,Nat.reduceAdd] at hF;have h0:=hF.1;have h1:=hF.2.1;have h2:=hF.2.2;clear hF;simp only[jF,Act.put,zq,List.drop_succ_cons,List.drop_zero];simp only[h0,h1];clear h0 h1;have HG5:=zh (HG0.out.trans hG);have HC:=zh h2;obtain⟨va,vc,hvv,_⟩:=h2;rw[hvv] at HC⊢;clear hG hvv;go_wp2_with fail;refine (mR M _ HC.out HRG.out HLN.out HG.out (HB.out.grew HG5.out)).mono ?_;rintro r w3 ⟨rfl,ht⟩;have HT:=zh (ht.after HG5.out);clear ht;go_wp2;go_end0;exact⟨rfl,by rw[HD.out];exact HT.out⟩
   refine⟨?_,?_⟩
   ·exact fY
   refine⟨?_,?_⟩
   ·exact pE
   refine⟨?_,?_⟩
   ·intro y w2 hG hD K hK;simp only[kO,zq4,zq5,Is,and_true] at hD;simp only[jF,Act.put,zq,Is] at hK⊢;simp only[hD] at hK⊢;clear hD;refine jO ?_;go_simp;refine (pD 16 n u s a4 keys.length c4 a5 c5 l vs w2 (k7.out.grew (HGW.out.trans (HG0.out.trans hG))) (HK.out.grew (HGW.out.trans (HG0.out.trans hG))) HLL.out).mono ?_;rintro r w3 ⟨v',rfl,ho,hg3⟩;exact hK _ _ _ rfl hg3 zp18
   trivial
  ·have HD:Hid (kT jB jC (.mk 10 n u s keys l) x=_):=LM;go_enter func46,ntmps46;go_wp2_with fail;generalize ((w.alloc (.cells #[jI q.p] 70)).alloc (.cells #[.int .i64 10,.int .i64 n,.int .u64 u,.string s,.slice a4 keys.length c4,.slice a5 l.length c5] 26))=wb at *;refine (LK (HB.out.grew HG0.out)).mono ?_;rintro r w4 ⟨rfl,rfl⟩;have HSTK:Hid (x.stk.length≤65536):=HB.out.ok.stk;obtain⟨sl,hsl⟩:∃sl,x.stk.length=sl:=⟨_,rfl⟩;rw[hsl] at HSTK HD⊢;clear hsl;go_wp2_with fail
   go_loopw [58] (fun i wr=>∃j:Nat,j≤l.length∧i=.int .i64 j∧Hid (Env B q jB jC w κ [(N+1,Obj.cells #[.int .i64 10,.int .i64 n,.int .u64 u,.string s,.slice a4 keys.length c4,.slice a5 l.length c5] 26 (0,0)),(N,Obj.cells #[jI q.p] 70 (0,0))] (y6 jB jC (l.take j) x) wr)) (fun i _=>l.length - (intOf i).toNat)
   case atStart=>exact⟨0,Nat.zero_le _,rfl,HE.out⟩
   case round=>
    obtain⟨j,hj,rfl,HW⟩:=hrel;clear cb g0 g1 g2 g3 g4 g5;by_cases hlt:j < l.length
    ·obtain⟨z,hz⟩:∃z,l[j]? = some z:=⟨_,List.getElem?_eq_getElem hlt⟩;obtain⟨xv,hxv,hnx⟩:=HK.out.get hz;have hzm:z∈l:=List.mem_of_getElem? hz
     obtain⟨b,off,hab,hc6⟩:∃b off,a5=some ⟨b,off,none⟩∧yQ W b (off+j*6) xv:=by
      obtain⟨a,c,e,_,_,_,h⟩:=k7.out;injection e with e1 e2 e3;subst e1;exact h j xv hxv
     subst hab;have HGWr:=zh (Env.old HB.out HGW.out HWB.out HW.out);obtain⟨xk,xn,xu,xs,xa4,xn4,xc4,xa5,xn5,xc5,rfl⟩:=hnx.node6;obtain⟨e0,e1,e2,e3,e4,e5⟩:=(hc6.grew HGWr.out).get
     have HSN:Hid (y6 jB jC (l.take (j+1)) x=kT jB jC z (y6 jB jC (l.take j) x)):=by
      show _=_;rw[← fR,List.take_add_one,hz];rfl
     have HGD:Hid ((y6 jB jC (l.take j) x).Good):=Y1 _ HG.out;have HZS:=zh (HSZ.out z hzm);have HZO:=zh (HOK.out z hzm);have HNX:=zh hnx;have HGR:=zh ((jD.refl wr).alloc (.cells #[.int .i64 xk,.int .i64 xn,.int .u64 xu,.string xs,.slice xa4 xn4 xc4,.slice xa5 xn5 xc5] 26));have cb:=Env.cell (HW.out.grew HGR.out) HM1.out 0 _ rfl;generalize y6 jB jC (l.take j) x=Y at *;clear hc6 hz hxv hnx hzm;have hji:(j:Int) < l.length:=(by omega);go_wp2_with fail;generalize (wr.alloc (.cells #[.int .i64 xk,.int .i64 xn,.int .u64 xu,.string xs,.slice xa4 xn4 xc4,.slice xa5 xn5 xc5] 26))=ws at *;refine ((HW.out.grew HGR.out).call fun κ1 hb hz=>HIH.out z HZS.out _ κ1 Y ws HNX.out HZO.out (HGWr.out.trans HGR.out) HGD.out hb).mono ?_;rintro r w5 ⟨rfl,he⟩;have HE5:=zh he;clear he cb e0 e1 e2 e3 e4 e5;go_wp2_with fail;go_roundw
     case rel=>exact⟨j+1,by omega,by go_num,by rw[HSN.out];exact HE5.out⟩
     case measure=>simp[intOf];omega
    ·have ej:j=l.length:=(by omega);subst ej;have hw:=HW.out;rw[List.take_length] at hw;have HWE:=zh hw;have HGD:Hid ((y6 jB jC l x).Good):=Y1 _ HG.out;have cb:=Env.cell hw HM1.out 0 _ rfl;generalize y6 jB jC l x=Y at *;clear hw HW;have hji:¬((l.length:Nat):Int) < l.length:=(by omega);go_wp2_with fail;refine (HWE.out.call fun κ1 hb hz=>uW (sl:Int) HGD.out hb).mono ?_;rintro r w5 ⟨rfl,he⟩;have HT:=zh he;clear he;go_wp2;go_end0;exact⟨rfl,by rw[HD.out];exact HT.out.turn⟩
  ·have HD:Hid (kT jB jC (.mk 17 n u s keys l) x=_):=LN;have HKL:Hid (keys.length=l.length):=HZ.out.2.2 rfl;go_enter func46,ntmps46;go_wp2_with fail;generalize ((w.alloc (.cells #[jI q.p] 70)).alloc (.cells #[.int .i64 17,.int .i64 n,.int .u64 u,.string s,.slice a4 keys.length c4,.slice a5 l.length c5] 26))=wb at *;refine (LL (HB.out.grew HG0.out)).mono ?_;rintro r w4 ⟨rfl,rfl⟩;have HSTK:Hid (x.stk.length≤65536):=HB.out.ok.stk;obtain⟨sl,hsl⟩:∃sl,x.stk.length=sl:=⟨_,rfl⟩;rw[hsl] at HSTK HD⊢;clear hsl;go_wp2_with fail
   go_loopw [77] (fun i wr=>∃j:Nat,j≤l.length∧i=.int .i64 j∧Hid (Env B q jB jC w κ [(N+1,Obj.cells #[.int .i64 17,.int .i64 n,.int .u64 u,.string s,.slice a4 keys.length c4,.slice a5 l.length c5] 26 (0,0)),(N,Obj.cells #[jI q.p] 70 (0,0))] (qQ jB jC (l.take j) (keys.take j) x) wr)) (fun i _=>l.length - (intOf i).toNat)
   case atStart=>exact⟨0,Nat.zero_le _,rfl,HE.out⟩
   case round=>
    obtain⟨j,hj,rfl,HW⟩:=hrel;clear cb g0 g1 g2 g3 g4 g5;by_cases hlt:j < l.length
    ·obtain⟨z,hz⟩:∃z,l[j]? = some z:=⟨_,List.getElem?_eq_getElem hlt⟩;obtain⟨xv,hxv,hnx⟩:=HK.out.get hz;have hzm:z∈l:=List.mem_of_getElem? hz
     obtain⟨b,off,hab,hc6⟩:∃b off,a5=some ⟨b,off,none⟩∧yQ W b (off+j*6) xv:=by
      obtain⟨a,c,e,_,_,_,h⟩:=k7.out;injection e with e1 e2 e3;subst e1;exact h j xv hxv
     subst hab;obtain⟨key,hkey⟩:∃key,keys[j]? = some key:=⟨_,List.getElem?_eq_getElem (by have:=HKL.out;omega)⟩
     obtain⟨kb,ko,hak,hck⟩:∃kb ko,a4=some ⟨kb,ko,none⟩∧W.cell? ⟨kb,ko+j,none⟩=some (.string key):=by
      obtain⟨a,c,e,_,_,_,h⟩:=HKS.out;injection e with e1 e2 e3;subst e1;exact (h j key hkey).2
     subst hak;have HGWr:=zh (Env.old HB.out HGW.out HWB.out HW.out);obtain⟨xk,xn,xu,xs,xa4,xn4,xc4,xa5,xn5,xc5,rfl⟩:=hnx.node6
     have HSN:Hid (qQ jB jC (l.take (j+1)) (keys.take (j+1)) x=kT jB jC z ((qQ jB jC (l.take j) (keys.take j) x).key jB (onF jC 1) key)):=by
      show _=_;rw[← fS _ _ _ _ _ (by rw[List.length_take,List.length_take,HKL.out]),List.take_add_one,List.take_add_one,hz,hkey];rfl
     have HGD:Hid ((qQ jB jC (l.take j) (keys.take j) x).Good):=Y2 _ _ HG.out;have HZS:=zh (HSZ.out z hzm);have HZO:=zh (HOK.out z hzm);have HNX:=zh hnx;have HC6:=zh hc6;have HCK:=zh hck;have HKY:=zh (HZ.out.2.1 key (List.mem_of_getElem? hkey));generalize qQ jB jC (l.take j) (keys.take j) x=Y at *;clear hc6 hz hxv hnx hzm hck hkey;have hji:(j:Int) < l.length:=(by omega);have HJ:=zh hlt;go_wp2_with fail;refine (HW.out.call' fun κ1 hb he=>ER N (N+1) 17 n u s kb ko keys c4 b off l c5 j key z xk xn xu xs xa4 xn4 xc4 xa5 xn5 xc5 HWB.out HGWr.out (by have:=HKL.out;have:=HJ.out;omega) HJ.out (by have:=HKL.out;have:=HLL.out;omega) HLL.out HCK.out HKY.out HC6.out (fun κ2 y w1 hw1 hy hb1=>HIH.out z HZS.out _ κ2 y w1 HNX.out HZO.out hw1 hy hb1) HGD.out hb he).mono ?_;rintro r w5 ⟨rfl,he⟩;have HE5:=zh he;clear he;go_wp2_with fail;go_roundw
     case rel=>exact⟨j+1,by omega,by go_num,by rw[HSN.out];exact HE5.out⟩
     case measure=>simp[intOf];omega
    ·have ej:j=l.length:=(by omega);subst ej;have hw:=HW.out;have ekk:keys.take l.length=keys:=(by rw[← HKL.out,List.take_length]);rw[List.take_length,ekk] at hw;have HWE:=zh hw;have HGD:Hid ((qQ jB jC l keys x).Good):=Y2 _ _ HG.out;have cb:=Env.cell hw HM1.out 0 _ rfl;generalize qQ jB jC l keys x=Y at *;clear hw HW;have hji:¬((l.length:Nat):Int) < l.length:=(by omega);go_wp2_with fail;refine (HWE.out.call fun κ1 hb hz=>wT (sl:Int) HGD.out hb).mono ?_;rintro r w5 ⟨rfl,he⟩;have HT:=zh he;clear he;go_wp2;go_end0;exact⟨rfl,by rw[HD.out];exact HT.out.turn⟩
  ·have HD:Hid (kT jB jC (.mk k n u s keys l) x=_):=BI hkn;obtain⟨m1,m2,m3,m4,m5,m6,m7,m8⟩:=hkn;have p11:(k == 11)=false:=by simpa using m1
   have p12:(k == 12)=false:=by simpa using m2
   have p14:(k == 14)=false:=by simpa using m3
   have p13:(k == 13)=false:=by simpa using m4
   have p15:(k == 15)=false:=by simpa using m5
   have p16:(k == 16)=false:=by simpa using m6
   have p10:(k == 10)=false:=by simpa using m7
   have p17:(k == 17)=false:=by simpa using m8
   clear m1 m2 m3 m4 m5 m6 m7 m8;go_enter func46,ntmps46;go_wp2_with fail;generalize ((w.alloc (.cells #[jI q.p] 70)).alloc (.cells #[.int .i64 k,.int .i64 n,.int .u64 u,.string s,.slice a4 keys.length c4,.slice a5 l.length c5] 26))=wb at *;refine (LJ k n u s a4 keys.length c4 a5 l.length c5 HRN.out.1 HRN.out.2 HZ.out.1 HG.out (HB.out.grew HG0.out)).mono ?_;rintro r w3 ⟨rfl,ht⟩;have HT:=zh (ht.after HG0.out);clear ht;go_wp2;go_end0;exact⟨rfl,by rw[HD.out];exact HT.out⟩
def KD (jB jC:Int) (t:Tr):List UInt8 × Int:=if JI t≠0 then ([],JI t) else ((kT (JD jB) jC (zX t) BS.new).finish (JD jB)).1
theorem fX {w w':World} {t:Tr} {r:Ending} (h:aR w t r w'):jD w w'∧∃(e k n u:Int) (s:ByteArray) (a4:Option Addr) (n4 c4:Nat) (a5:Option Addr) (n5 c5:Nat),r=.returned (.tuple #[.agg #[.int .i64 k,.int .i64 n,.int .u64 u,.string s,.slice a4 n4 c4,.slice a5 n5 c5],.int .i64 e])∧e=JI t∧(e=0→jM w' (zX t) (.agg #[.int .i64 k,.int .i64 n,.int .u64 u,.string s,.slice a4 n4 c4,.slice a5 n5 c5])):=by
 obtain⟨hg,⟨h0,rfl⟩|⟨h0,v,S,rfl,ho,hf⟩⟩:=h
 ·exact⟨hg,JI t,0,0,0,⟨#[]⟩,none,0,0,none,0,0,rfl,rfl,fun h=>absurd h h0⟩
 ·obtain⟨k,n,u,s,a4,n4,c4,a5,n5,c5,rfl⟩:=ho.node6;exact⟨hg,0,k,n,u,s,a4,n4,c4,a5,n5,c5,rfl,h0.symm,fun _=>ho.node⟩
theorem wQ.grew_old {B:Nat} {q:zJ} {jB jC:Int} {κ:Nat→Nat} {x y:BS} {v:Value} {d:List UInt8} {W w w':World} (h0:Bd B q jB jC κ x w) (hW:jD W w) (hB:W.heap.size≤B) (h:wQ B q jB jC w κ y v d w'):jD W w':=by
 obtain⟨κ1,k1,k2,_⟩:=h;exact Moved.fresh hW k2.1 (fun g hg=>Nat.le_trans hB (h0.lt g hg).1)
theorem BJ (jC jB:Int) (t:Tr) (v:Value) (w:World) (hn:jM w t v) (hsz:t.size≤4096) (hok:JI t=0→okE (zX t)):Calls prog 18 #[v,.int .i64 jC,.int .i64 jB] w fun r w'=>∃v',r=.returned (.tuple #[v',.int .i64 (KD jB jC t).2])∧w'.ownsRow w.heap.size 5 1 v' (KD jB jC t).1.length (Lib.byteCells (KD jB jC t).1)∧jD w w':=by
 have HN:=zh hn;have HOK:=zh hok;obtain⟨k,n,u,s,a4,n4,c4,a5,n5,c5,rfl⟩:=hn.node6;have HGA:=zh ((jD.refl w).alloc (.cells #[.int .i64 k,.int .i64 n,.int .u64 u,.string s,.slice a4 n4 c4,.slice a5 n5 c5] 26));have jK:=heap_alloc_new w (.cells #[.int .i64 k,.int .i64 n,.int .u64 u,.string s,.slice a4 n4 c4,.slice a5 n5 c5] 26);have g0:=jA jK 0 _ rfl;have g1:=jA jK 1 _ rfl;have g2:=jA jK 2 _ rfl;have g3:=jA jK 3 _ rfl;have g4:=jA jK 4 _ rfl;have g5:=jA jK 5 _ rfl;clear hn hok jK;obtain⟨R,hR⟩:∃R,KD jB jC t=R:=⟨_,rfl⟩;rw[hR];have HR:=zh hR;clear hR;obtain⟨D,E⟩:=R;dsimp only;go_enter func18,ntmps18;go_wp2_with fail;generalize (w.alloc (.cells #[.int .i64 k,.int .i64 n,.int .u64 u,.string s,.slice a4 n4 c4,.slice a5 n5 c5] 26))=w1 at *;refine (iV t _ w1 (HN.out.grew HGA.out) zo).mono ?_;intro r w2 h;obtain⟨hg2,e,rk,rn,ru,rs,ra4,rn4,rc4,ra5,rn5,rc5,rfl,he,hnode⟩:=fX h;have HG2:=zh (HGA.out.trans hg2);have HNO:=zh hnode;have HEE:=zh he;clear h hg2 he hnode g0 g1 g2 g3 g4 g5;by_cases h0:e=0
 ·subst h0;have HN3:Hid (jM w2 (zX t) (.agg #[.int .i64 rk,.int .i64 rn,.int .u64 ru,.string rs,.slice ra4 rn4 rc4,.slice ra5 rn5 rc5])):=HNO.out rfl;have HOK3:Hid (okE (zX t)):=HOK.out HEE.out.symm
  have HRV:Hid (((kT (JD jB) jC (zX t) BS.new).finish (JD jB)).1=(D,E)):=by
   show _=_;rw[← HR.out];unfold KD;rw[if_neg (by rw[← HEE.out];decide)]
  have HG3:=zh ((jD.refl w2).alloc (.cells #[.int .i64 rk,.int .i64 rn,.int .u64 ru,.string rs,.slice ra4 rn4 rc4,.slice ra5 rn5 rc5] 26));have jK:=heap_alloc_new w2 (.cells #[.int .i64 rk,.int .i64 rn,.int .u64 ru,.string rs,.slice ra4 rn4 rc4,.slice ra5 rn5 rc5] 26);have g0:=jA jK 0 _ rfl;have g1:=jA jK 1 _ rfl;have g2:=jA jK 2 _ rfl;have g3:=jA jK 3 _ rfl;have g4:=jA jK 4 _ rfl;have g5:=jA jK 5 _ rfl;have K6:=zh jK;clear jK;go_wp2_with fail;generalize (w2.alloc (.cells #[.int .i64 rk,.int .i64 rn,.int .u64 ru,.string rs,.slice ra4 rn4 rc4,.slice ra5 rn5 rc5] 26))=w3 at *;refine (H9 jC jB w3).mono ?_;rintro r w4 ⟨q,κ,rfl,hb,hg4⟩;have HB:=zh hb;have HG4:=zh hg4;have hr4:=hg4.heap K6.out;clear hb hg4 g0 g1 g2 g3 g4 g5;have g0:=jA hr4 0 _ rfl;have g1:=jA hr4 1 _ rfl;have g2:=jA hr4 2 _ rfl;have g3:=jA hr4 3 _ rfl;have g4:=jA hr4 4 _ rfl;have g5:=jA hr4 5 _ rfl;clear hr4;go_wp2_with fail;refine (ES (W:=w3) (Nat.le_refl _) _ (zX t) (Nat.le_refl _) _ κ BS.new w4 (HN3.out.grew HG3.out) HOK3.out HG4.out BS.Good.new HB.out).mono ?_;rintro r w5 ⟨rfl,κ5,hb5,ht5⟩;have HB5:=zh hb5;have HG5:Hid (jD w3 w5):=Moved.fresh HG4.out ht5.1 (fun g hg=>(HB.out.lt g hg).1);clear hb5 ht5 g0 g1 g2 g3 g4 g5;go_wp2_with fail;refine (wR HB5.out).mono ?_;rw[HRV.out];dsimp only;rintro r w6 ⟨v6,rfl,hf⟩;have HG6:=zh (wQ.grew_old HB5.out HG5.out (Nat.le_refl _) hf);obtain⟨κ6,k1,k2,k3,k4⟩:=hf;obtain⟨va,vc,rfl,hz1,hz2,hz3⟩:=jX k3;have HRO:=zh (JV k3 (Nat.le_trans (HG2.out.trans HG3.out).size HG5.out.size));clear k1 k2 k3 k4 hz1 hz2 hz3;go_wp2
  go_ret2
  exact⟨_,rfl,HRO.out,(HG2.out.trans HG3.out).trans HG6.out⟩
 ·have hb:(e != 0)=true:=by simpa using h0
  have HRV:Hid (D=[]∧E=e):=by
   have h:=HR.out;unfold KD at h;rw[if_pos (by rw[← HEE.out];exact h0),← HEE.out] at h;exact⟨(congrArg Prod.fst h).symm,(congrArg Prod.snd h).symm⟩
  clear h0;have HG3:=zh ((jD.refl w2).alloc (.cells #[.int .i64 rk,.int .i64 rn,.int .u64 ru,.string rs,.slice ra4 rn4 rc4,.slice ra5 rn5 rc5] 26));go_wp2
  go_ret2
  exact⟨.slice none 0 0,by rw[HRV.out.2];rfl,by rw[HRV.out.1];exact World.ownsRow_nil _ _ _ _,HG2.out.trans HG3.out⟩
theorem ET (jC:Int) (t:Tr) (v:Value) (w:World) (hn:jM w t v) (hsz:t.size≤4096) (hok:JI t=0→okE (zX t)):Calls prog 11 #[v,.int .i64 jC] w fun r w'=>∃v',r=.returned (.tuple #[v',.int .i64 (KD 1048576 jC t).2])∧w'.ownsRow w.heap.size 5 1 v' (KD 1048576 jC t).1.length (Lib.byteCells (KD 1048576 jC t).1)∧jD w w':=by
 have HC:=zh (fun w' (hg:jD w w')=>BJ jC 1048576 t v w' (hn.grew hg) hsz hok);obtain⟨k,n,u,s,a4,n4,c4,a5,n5,c5,rfl⟩:=hn.node6;have HGA:=zh ((jD.refl w).alloc (.cells #[.int .i64 k,.int .i64 n,.int .u64 u,.string s,.slice a4 n4 c4,.slice a5 n5 c5] 26));have jK:=heap_alloc_new w (.cells #[.int .i64 k,.int .i64 n,.int .u64 u,.string s,.slice a4 n4 c4,.slice a5 n5 c5] 26);have g0:=jA jK 0 _ rfl;have g1:=jA jK 1 _ rfl;have g2:=jA jK 2 _ rfl;have g3:=jA jK 3 _ rfl;have g4:=jA jK 4 _ rfl;have g5:=jA jK 5 _ rfl;clear hn hok jK hsz;generalize KD 1048576 jC t=R at *;obtain⟨D,E⟩:=R;dsimp only at *;go_enter func11,ntmps11;go_wp2_with fail;generalize (w.alloc (.cells #[.int .i64 k,.int .i64 n,.int .u64 u,.string s,.slice a4 n4 c4,.slice a5 n5 c5] 26))=w1 at *;refine (HC.out w1 HGA.out).mono ?_;rintro r w2 ⟨v',rfl,ho,hg⟩;obtain⟨va,vc,rfl,hz1,hz2,hz3⟩:=jX ho;have HO:=zh (And.intro (JV ho HGA.out.size) (HGA.out.trans hg));clear ho hg hz1 hz2 hz3;go_wp2
 go_ret2
 exact⟨_,rfl,HO.out.1,HO.out.2⟩
theorem okE_of:∀(m:Nat) (t:Tr) (b:Nat),t.size≤m→t.size≤4096→QJ b t→smT 1000 t→okE t:=by
 intro m
 induction m with
 | zero=>intro t b h;have:=t.size_pos;omega
 | succ m ih=>
  intro t b h hz hv hs;obtain⟨k,n,u,s,keys,l⟩:=t;obtain⟨_,_,v3,v4,_⟩:=KV hv;have qK:=valL_iff.1 hv.2.2.2;have hsl:=smL_iff.1 hs.2;simp only[Tr.size] at h hz;have hl:=KO l;exact⟨⟨by have:=hs.1.1;omega,fun q hq=>by have:=hs.1.2 q hq;omega,by omega,fun e=>(v4 e).2⟩,okEL_iff.2 fun x hx=>ih x (b+1) mE mE (qK x hx) (hsl x hx)⟩
theorem ok_sort {t:Tr} (hs:smT 1000 t) (h:JI t=0):okE (zX t):=by
 obtain⟨hz,hv⟩:=check_val.1 h;obtain⟨hv2,hz2⟩:=iW t.size t 0 (Nat.le_refl _) hv;exact okE_of _ _ 0 (Nat.le_refl _) zo hv2 (rT _ t (Nat.le_refl _) hs)
theorem sm_wide {K L:Nat} (hKL:K≤L):∀(m:Nat) (t:Tr),t.size≤m→smT K t→smT L t:=by
 intro m
 induction m with
 | zero=>intro t h;have:=t.size_pos;omega
 | succ m ih=>
  intro t h hs;obtain⟨k,n,u,s,keys,l⟩:=t;simp only[Tr.size] at h;have hsl:=smL_iff.1 hs.2;exact⟨⟨by have:=hs.1.1;omega,fun q hq=>by have:=hs.1.2 q hq;omega⟩,smL_iff.2 fun x hx=>ih x mE (hsl x hx)⟩
end Go.Proofs.YtdjoffgkndncfaaGreat
namespace Go.Proofs.YtdjoffgkndncfaaGreat
open Go.Proofs.Tryz
open Go Go.ChangeShapes Go.WideShapes Go.ChangeAt Go.RowKit Go.Joins Go.Deep
open Go.Proofs.YtdjoffgkndncfaaGreat.Ft (V3 vV okV ValsAt inlineB legalB packF codeF typedF allF oneF fitsF unpackF)
theorem EU {b:List UInt8} {v:V3} {t:Tr} (hb:b.length≤1048576) (h:Z1 b v t):JG (aA b v) t=true:=by
 have hn:=h.near hb;have hd:=doc_end hb hn;obtain⟨hw,hf⟩:=QO hb hn;have hu:=uL (v:=v) hd.isw hn.1;have hmod:=rO hd.isw b
 have hp0:(b.length:Int)≤(b.length:Int)+j5 b (oneF v.1 v.2.1 v.2.2 b.length 0):=by
  omega
 have hp1:(b.length:Int)+j5 b (oneF v.1 v.2.1 v.2.2 b.length 0)≤9007199254740992:=by
  have h1:=kW hd.isw;rw[bX hd.isw];have:=Int.ediv_mul_le ((b.length:Int)+oneF v.1 v.2.1 v.2.2 b.length 0 - 1) (show oneF v.1 v.2.1 v.2.2 b.length 0≠0 by omega);omega
 have hin:inlineB v.1=true→v.2.1≤oneF v.1 v.2.1 v.2.2 b.length 0:=fun hi=>by
  unfold fitsF at hf;rw[if_pos hi] at hf;simpa using hf
 obtain⟨e,he⟩:∃e,aA b v=b++e:=⟨_,rfl⟩;have hl:=hd.num;have kI:=hd.len;have htag:=hd.tag;have hwid:=hd.wid;have hwn:=kW hd.isw;have hs:=eT (lim:=(b.length:Int)+j5 b (oneF v.1 v.2.1 v.2.2 b.length 0)) h hw (by rw[← he,hl];rfl) hin hp0 hp1 hp0;rw[← he] at hs;generalize (b.length:Int)+j5 b (oneF v.1 v.2.1 v.2.2 b.length 0)=p at *;generalize oneF v.1 v.2.1 v.2.2 b.length 0=w at *
 have hlb:aI (aA b v) 1=w:=by
  unfold aI;rw[hwid];show ((UInt8.ofNat w.toNat).toNat:Int)=w;rw[UInt8.toNat_ofNat'];omega
 have hpos:((aA b v).length:Int) - 2 - w=p:=by omega
 unfold JG;rw[hlb,hpos,htag];simp only[Option.getD_some,hu,Bool.and_eq_true,decide_eq_true_eq];exact⟨by omega,⟨⟨⟨trivial,hw⟩,by omega⟩,hmod⟩,hs⟩
theorem okS_of:∀(m:Nat) (t:Tr) (b:Nat),t.size≤m→t.size≤4096→QJ b t→smT 1000 t→okS t:=by
 intro m
 induction m with
 | zero=>intro t b h;have:=t.size_pos;omega
 | succ m ih=>
  intro t b h hz hv hs;obtain⟨k,n,u,s,keys,l⟩:=t;obtain⟨_,_,v3,v4,_⟩:=KV hv;have qK:=valL_iff.1 hv.2.2.2;have hsl:=smL_iff.1 hs.2;simp only[Tr.size] at h hz;have hl:=KO l;rw[okS];refine⟨hs.1.1,fun q hq=>hs.1.2 q hq,?_,by omega,fun x hx=>ih x (b+1) mE mE (qK x hx) (hsl x hx)⟩;by_cases e:k=17
  ·have:=(v4 e).2;omega
  ·rw[v3 e];exact Nat.zero_le _
theorem LU {t:Tr} (hs:smT 1000 t) (h:JI t=0):okS (zX t):=by
 obtain⟨hz,hv⟩:=check_val.1 h;obtain⟨hv2,hz2⟩:=iW t.size t 0 (Nat.le_refl _) hv;exact okS_of _ _ 0 (Nat.le_refl _) zo hv2 (rT _ t (Nat.le_refl _) hs)
end Go.Proofs.YtdjoffgkndncfaaGreat
namespace Go.Proofs.YtdjoffgkndncfaaGreat
open Go.Proofs.Tryz
open Go Go.ChangeShapes Go.WideShapes Go.ChangeAt Go.RowKit Go.Joins
open Go.ChangeMaps (open_string shut_string)
open Go.Deep
open Go.Proofs.YtdjoffgkndncfaaGreat.Ft (V3 vV okV ValsAt inlineB legalB packF codeF typedF allF oneF unpackF)
theorem EV:JD 1048576=1048576:=by decide
theorem BK {fl:Int} {t:Tr} (hc:JI t=0) (hsm:smT 60 t) (hr:rP t) (hz:t.size≤120):∃b v,pF 1048576 fl t b v∧KD 1048576 fl t=(aA b v,0):=by
 obtain⟨b,v,hb⟩:=G8 (jC:=fl) hc hsm hr hz;refine⟨b,v,hb,?_⟩;unfold KD;rw[if_neg (by rw[hc];decide),EV];exact DP hb.inv.e0 hb.s hb.stk (by have:=hb.len;omega) hb.near (by have:=hb.doc_len;omega)
theorem EW {jB fl:Int} {t:Tr} (hc:JI t≠0):KD jB fl t=([],JI t):=by unfold KD;rw[if_pos hc]
end Go.Proofs.YtdjoffgkndncfaaGreat
