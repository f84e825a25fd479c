/-
  Texts of the proof.
-/
import Derived.Test.YtdjoffgkndncfaaGreatEFlagsPBO
import Derived.Test.YtdjoffgkndncfaaGreatEFlagsPBS
import Derived.Test.YtdjoffgkndncfaaGreatEFlagsPBT
set_option linter.unusedVariables false
set_option linter.unusedSimpArgs false
set_option maxHeartbeats 64000000
set_option maxRecDepth 100000
namespace Go.Proofs.YtdjoffgkndncfaaGreat
open Go.Proofs.Tryz
open Go Go.ChangeShapes Go.WideShapes Go.ChangeAt Go.RowKit Go.Joins Go.Deep
open Go.Proofs.YtdjoffgkndncfaaGreat.Ft (V3 vV okV ValsAt inlineB legalB packF codeF typedF allF)
theorem F5 (k n u:Int) (s:ByteArray) (a4:Option Addr) (n4 c4:Nat) (a5:Option Addr) (n5 c5:Nat) (w:World):Calls prog 75 #[.agg #[.int .i64 k,.int .i64 n,.int .u64 u,.string s,.slice a4 n4 c4,.slice a5 n5 c5]] w fun r w'=>r=.returned (.int .i64 n)∧jD w w':=by
 go_enter func75,ntmps75
 go_wp2
 go_ret
 exact⟨rfl,(jD.refl w).alloc _⟩
theorem F6 (k n u:Int) (s:ByteArray) (a4:Option Addr) (n4 c4:Nat) (a5:Option Addr) (n5 c5:Nat) (w:World):Calls prog 78 #[.agg #[.int .i64 k,.int .i64 n,.int .u64 u,.string s,.slice a4 n4 c4,.slice a5 n5 c5]] w fun r w'=>r=.returned (.int .u64 u)∧jD w w':=by
 go_enter func78,ntmps78
 go_wp2
 go_ret
 exact⟨rfl,(jD.refl w).alloc _⟩
theorem DU (k n u:Int) (s:ByteArray) (a4:Option Addr) (n4 c4:Nat) (a5:Option Addr) (n5 c5:Nat) (w:World):Calls prog 84 #[.agg #[.int .i64 k,.int .i64 n,.int .u64 u,.string s,.slice a4 n4 c4,.slice a5 n5 c5]] w fun r w'=>r=.returned (.string s)∧jD w w':=by
 go_enter func84,ntmps84
 go_wp2
 go_ret
 exact⟨rfl,(jD.refl w).alloc _⟩
theorem u9 (k n u:Int) (s:ByteArray) (a4:Option Addr) (n4 c4:Nat) (a5:Option Addr) (n5 c5:Nat) (w:World):Calls prog 81 #[.agg #[.int .i64 k,.int .i64 n,.int .u64 u,.string s,.slice a4 n4 c4,.slice a5 n5 c5]] w fun r w'=>r=.returned (.bool (decide (n=1)))∧jD w w':=by
 by_cases h:n=1
 ·subst h
  go_enter func81,ntmps81
  go_wp2
  go_ret
  exact⟨rfl,(jD.refl w).alloc _⟩
 ·have hb:(n == 1)=false:=by simpa using h
  have HD:Hid (decide (n=1)=false):=by show _=_;simpa using h
  clear h
  go_enter func81,ntmps81
  go_wp2
  go_ret
  exact⟨by rw[HD.out];rfl,(jD.refl w).alloc _⟩
theorem BP {w:World} {x:Tr} {k n u:Int} {s:ByteArray} {a4 a5:Option Addr} {n4 c4 n5 c5:Nat} (h:k7 w x (.agg #[.int .i64 k,.int .i64 n,.int .u64 u,.string s,.slice a4 n4 c4,.slice a5 n5 c5])):n=x.fn∧u=x.fu∧s=x.fs∧qH x.fn∧vT x.fu∧kF x.fs.size:=by
 obtain⟨k',n',u',s',keys,l⟩:=x
 simp only[k7] at h
 obtain⟨hb,kv,lv,vs,e,_⟩:=h
 injection e with e
 injection e with e
 simp at e
 obtain⟨rfl,rfl,rfl,rfl,_⟩:=e
 exact⟨rfl,rfl,rfl,hb.2.1,hb.2.2.1,hb.2.2.2⟩
theorem oL (k n u:Int) (s:ByteArray) (a4:Option Addr) (n4 c4:Nat) (a5:Option Addr) (c5:Nat) (l:List Tr) (vs:List Value) (w:World) (hr:J7 w (.slice a5 l.length c5) vs) (hk:yJ w l vs) (hl:l.length≤4096) :
 Calls prog 74 #[.agg #[.int .i64 k,.int .i64 n,.int .u64 u,.string s,.slice a4 n4 c4,.slice a5 l.length c5],.func (.func 75) #[] #[]] w fun r w'=>∃v',r=.returned v'∧w'.ownsRow w.heap.size 2 1 v' (l.map Tr.fn).length ((l.map Tr.fn).map fun x=>.int .i64 x)∧jD w w':=by
 obtain⟨MR,hMR⟩:∃MR,(l.map Tr.fn)=MR:=⟨_,rfl⟩
 rw[hMR]
 have HMR:=zh hMR
 clear hMR
 have HR:=zh hr
 have HK:=zh hk
 clear hr hk
 have jJ:=heap_alloc_new w (.cells #[.int .i64 k,.int .i64 n,.int .u64 u,.string s,.slice a4 n4 c4,.slice a5 l.length c5] 26)
 have HG0:=zh ((jD.refl w).alloc (.cells #[.int .i64 k,.int .i64 n,.int .u64 u,.string s,.slice a4 n4 c4,.slice a5 l.length c5] 26))
 have HS0:=zh (World.size_alloc w (.cells #[.int .i64 k,.int .i64 n,.int .u64 u,.string s,.slice a4 n4 c4,.slice a5 l.length c5] 26))
 have g5:=jB jJ 5 _ rfl
 clear jJ
 go_enter func74,ntmps74
 go_wp2_with fail
 generalize (w.alloc (.cells #[.int .i64 k,.int .i64 n,.int .u64 u,.string s,.slice a4 n4 c4,.slice a5 l.length c5] 26))=w1 at *
 go_loopw [4,10] (fun v i wr=>∃q:Nat,q≤l.length∧i=.int .i64 q∧Hid (wr.ownsRow w1.heap.size 2 1 v ((l.take q).map Tr.fn).length (((l.take q).map Tr.fn).map fun x=>.int .i64 x)∧jD w1 wr)) (fun _ i _=>l.length - (intOf i).toNat)
 case atStart=>exact⟨0,Nat.zero_le _,rfl,by
  show _∧_
  exact⟨World.ownsRow_nil _ _ _ _,jD.refl _⟩⟩
 case round=>
  obtain⟨q,hq,rfl,HW⟩:=hrel
  by_cases hlt:q < l.length
  ·obtain⟨x,hx⟩:∃x,l[q]? = some x:=⟨_,List.getElem?_eq_getElem hlt⟩
   obtain⟨xv,hxv,hnx⟩:=HK.out.get hx
   have HSN:Hid ((l.take (q+1)).map Tr.fn=((l.take q).map Tr.fn)++[(Tr.fn) x]):=by show _=_;rw[List.take_add_one,hx];simp
   obtain⟨b,off,rfl,hc6⟩:∃b off,a5=some ⟨b,off,none⟩∧qI wr b (off+q*6) xv:=by
    obtain⟨a,c,e,_,_,_,h⟩:=HR.out
    injection e with e1 e2 e3
    subst e1
    obtain⟨b,off,e,h6⟩:=h q xv hxv
    exact⟨b,off,e,(h6.grew HG0.out).grew HW.out.2⟩
   obtain⟨xk,xn,xu,xs,xa4,xn4,xc4,xa5,xn5,xc5,rfl⟩:=hnx.node6
   obtain⟨f1,f2,f3,f4,f5,f6⟩:=BP hnx
   obtain⟨e0,e1,e2,e3,e4,e5⟩:=hc6.get
   have HO:=zh HW.out.1
   have HG:=zh HW.out.2
   have hlm:((l.take q).map Tr.fn).length=q:=by rw[List.length_map,List.length_take];omega
   generalize ((l.take q).map Tr.fn)=M at *
   have HLM:=zh hlm
   obtain⟨va,vc,hvf,hz1,hz2,hz3⟩:=jR HO.out
   rw[hlm] at hvf
   subst hvf
   have HX:Hid ((Tr.fn) x=xn):=by show _=_;exact f1.symm
   have HF6:=zh f6
   clear hc6 hx hxv hnx hz1 hz2 hz3 hlm HW f1 f2 f3 f4 f5 f6
   have hqi:(q:Int) < l.length:=by omega
   have hqb:q < 4096:=by omega
   have HQB:=zh hqb
   clear hqb
   go_wp2_with fail
   have HGR:=zh ((jD.refl wr).alloc (.cells #[.int .i64 xk,.int .i64 xn,.int .u64 xu,.string xs,.slice xa4 xn4 xc4,.slice xa5 xn5 xc5] 26))
   generalize (wr.alloc (.cells #[.int .i64 xk,.int .i64 xn,.int .u64 xu,.string xs,.slice xa4 xn4 xc4,.slice xa5 xn5 xc5] 26))=ws at *
   refine (F5 xk xn xu xs xa4 xn4 xc4 xa5 xn5 xc5 ws).mono ?_
   obtain⟨X,hX⟩:∃X,xn=X:=⟨_,rfl⟩
   skip
   rintro r w4 ⟨rfl,hg4⟩
   have HG4:=zh (HGR.out.trans hg4)
   have HO4:=zh (qE HO.out HG4.out)
   clear hg4 e0 e1 e2 e3 e4 e5
   subst hX
   go_wp2_with (at_builtin;refine V4 (fun x=>.int .i64 x) (fun _=>rfl) 115 2 (.int .i64 0) 8 underlying115 AO rfl (by decide) rfl _ _ rfl w1.heap.size (.slice va q vc) M rfl (qE HO4.out ((jD.refl _).alloc _)) _ [xn] rfl (dZ (fun x=>.int .i64 x) _ _ xn) (fun n c e=>by cases e) (by have:=HLM.out;have:=HQB.out;simp only[List.length_cons,List.length_nil];omega) (Nat.le_trans (HG.out.trans HG4.out).size (by simp)) ?_;intro v' w5 kC hgr hnx;have HG3:Hid (jD w1 w5):=aL (qE HO4.out ((jD.refl _).alloc _)) ((HG.out.trans HG4.out).alloc _) hgr;have HO3:=zh kC;obtain⟨va2,vc2,hvf2,hz1,hz2,hz3⟩:=jR kC;rw[List.length_append,HLM.out] at hvf2;subst hvf2;clear kC hgr hnx hz1 hz2 hz3)
   go_roundw
   case rel=>
    refine⟨q+1,by omega,by go_num,?_⟩
    show _∧_
    rw[HSN.out,HX.out]
    exact⟨HO3.out,HG3.out⟩
   case measure=>simp[intOf];omega
  ·have eq:q=l.length:=by omega
   subst eq
   have hqi:¬((l.length:Nat):Int) < l.length:=by omega
   have hf:=HW.out
   rw[List.take_length,HMR.out] at hf
   obtain⟨va,vc,rfl,hz1,hz2,hz3⟩:=jR hf.1
   have HF:=zh hf
   clear HW hf hz1 hz2 hz3
   go_wp2
   go_ret
   exact⟨.slice va MR.length vc,rfl,y9 HF.out.1 HG0.out.size,HG0.out.trans HF.out.2⟩
theorem oM (k n u:Int) (s:ByteArray) (a4:Option Addr) (n4 c4:Nat) (a5:Option Addr) (c5:Nat) (l:List Tr) (vs:List Value) (w:World) (hr:J7 w (.slice a5 l.length c5) vs) (hk:yJ w l vs) (hl:l.length≤4096) :
 Calls prog 77 #[.agg #[.int .i64 k,.int .i64 n,.int .u64 u,.string s,.slice a4 n4 c4,.slice a5 l.length c5],.func (.func 78) #[] #[]] w fun r w'=>∃v',r=.returned v'∧w'.ownsRow w.heap.size 22 1 v' (l.map Tr.fu).length ((l.map Tr.fu).map fun x=>.int .u64 x)∧jD w w':=by
 obtain⟨MR,hMR⟩:∃MR,(l.map Tr.fu)=MR:=⟨_,rfl⟩
 rw[hMR]
 have HMR:=zh hMR
 clear hMR
 have HR:=zh hr
 have HK:=zh hk
 clear hr hk
 have jJ:=heap_alloc_new w (.cells #[.int .i64 k,.int .i64 n,.int .u64 u,.string s,.slice a4 n4 c4,.slice a5 l.length c5] 26)
 have HG0:=zh ((jD.refl w).alloc (.cells #[.int .i64 k,.int .i64 n,.int .u64 u,.string s,.slice a4 n4 c4,.slice a5 l.length c5] 26))
 have HS0:=zh (World.size_alloc w (.cells #[.int .i64 k,.int .i64 n,.int .u64 u,.string s,.slice a4 n4 c4,.slice a5 l.length c5] 26))
 have g5:=jB jJ 5 _ rfl
 clear jJ
 go_enter func77,ntmps77
 go_wp2_with fail
 generalize (w.alloc (.cells #[.int .i64 k,.int .i64 n,.int .u64 u,.string s,.slice a4 n4 c4,.slice a5 l.length c5] 26))=w1 at *
 go_loopw [4,10] (fun v i wr=>∃q:Nat,q≤l.length∧i=.int .i64 q∧Hid (wr.ownsRow w1.heap.size 22 1 v ((l.take q).map Tr.fu).length (((l.take q).map Tr.fu).map fun x=>.int .u64 x)∧jD w1 wr)) (fun _ i _=>l.length - (intOf i).toNat)
 case atStart=>exact⟨0,Nat.zero_le _,rfl,by
  show _∧_
  exact⟨World.ownsRow_nil _ _ _ _,jD.refl _⟩⟩
 case round=>
  obtain⟨q,hq,rfl,HW⟩:=hrel
  by_cases hlt:q < l.length
  ·obtain⟨x,hx⟩:∃x,l[q]? = some x:=⟨_,List.getElem?_eq_getElem hlt⟩
   obtain⟨xv,hxv,hnx⟩:=HK.out.get hx
   have HSN:Hid ((l.take (q+1)).map Tr.fu=((l.take q).map Tr.fu)++[(Tr.fu) x]):=by show _=_;rw[List.take_add_one,hx];simp
   obtain⟨b,off,rfl,hc6⟩:∃b off,a5=some ⟨b,off,none⟩∧qI wr b (off+q*6) xv:=by
    obtain⟨a,c,e,_,_,_,h⟩:=HR.out
    injection e with e1 e2 e3
    subst e1
    obtain⟨b,off,e,h6⟩:=h q xv hxv
    exact⟨b,off,e,(h6.grew HG0.out).grew HW.out.2⟩
   obtain⟨xk,xn,xu,xs,xa4,xn4,xc4,xa5,xn5,xc5,rfl⟩:=hnx.node6
   obtain⟨f1,f2,f3,f4,f5,f6⟩:=BP hnx
   obtain⟨e0,e1,e2,e3,e4,e5⟩:=hc6.get
   have HO:=zh HW.out.1
   have HG:=zh HW.out.2
   have hlm:((l.take q).map Tr.fu).length=q:=by rw[List.length_map,List.length_take];omega
   generalize ((l.take q).map Tr.fu)=M at *
   have HLM:=zh hlm
   obtain⟨va,vc,hvf,hz1,hz2,hz3⟩:=jR HO.out
   rw[hlm] at hvf
   subst hvf
   have HX:Hid ((Tr.fu) x=xu):=by show _=_;exact f2.symm
   have HF6:=zh f6
   clear hc6 hx hxv hnx hz1 hz2 hz3 hlm HW f1 f2 f3 f4 f5 f6
   have hqi:(q:Int) < l.length:=by omega
   have hqb:q < 4096:=by omega
   have HQB:=zh hqb
   clear hqb
   go_wp2_with fail
   have HGR:=zh ((jD.refl wr).alloc (.cells #[.int .i64 xk,.int .i64 xn,.int .u64 xu,.string xs,.slice xa4 xn4 xc4,.slice xa5 xn5 xc5] 26))
   generalize (wr.alloc (.cells #[.int .i64 xk,.int .i64 xn,.int .u64 xu,.string xs,.slice xa4 xn4 xc4,.slice xa5 xn5 xc5] 26))=ws at *
   refine (F6 xk xn xu xs xa4 xn4 xc4 xa5 xn5 xc5 ws).mono ?_
   obtain⟨X,hX⟩:∃X,xu=X:=⟨_,rfl⟩
   skip
   rintro r w4 ⟨rfl,hg4⟩
   have HG4:=zh (HGR.out.trans hg4)
   have HO4:=zh (qE HO.out HG4.out)
   clear hg4 e0 e1 e2 e3 e4 e5
   subst hX
   go_wp2_with (at_builtin;refine V4 (fun x=>.int .u64 x) (fun _=>rfl) 119 22 (.int .u64 0) 8 underlying119 uY rfl (by decide) rfl _ _ rfl w1.heap.size (.slice va q vc) M rfl (qE HO4.out ((jD.refl _).alloc _)) _ [xu] rfl (dZ (fun x=>.int .u64 x) _ _ xu) (fun n c e=>by cases e) (by have:=HLM.out;have:=HQB.out;simp only[List.length_cons,List.length_nil];omega) (Nat.le_trans (HG.out.trans HG4.out).size (by simp)) ?_;intro v' w5 kC hgr hnx;have HG3:Hid (jD w1 w5):=aL (qE HO4.out ((jD.refl _).alloc _)) ((HG.out.trans HG4.out).alloc _) hgr;have HO3:=zh kC;obtain⟨va2,vc2,hvf2,hz1,hz2,hz3⟩:=jR kC;rw[List.length_append,HLM.out] at hvf2;subst hvf2;clear kC hgr hnx hz1 hz2 hz3)
   go_roundw
   case rel=>
    refine⟨q+1,by omega,by go_num,?_⟩
    show _∧_
    rw[HSN.out,HX.out]
    exact⟨HO3.out,HG3.out⟩
   case measure=>simp[intOf];omega
  ·have eq:q=l.length:=by omega
   subst eq
   have hqi:¬((l.length:Nat):Int) < l.length:=by omega
   have hf:=HW.out
   rw[List.take_length,HMR.out] at hf
   obtain⟨va,vc,rfl,hz1,hz2,hz3⟩:=jR hf.1
   have HF:=zh hf
   clear HW hf hz1 hz2 hz3
   go_wp2
   go_ret
   exact⟨.slice va MR.length vc,rfl,y9 HF.out.1 HG0.out.size,HG0.out.trans HF.out.2⟩
theorem DV (k n u:Int) (s:ByteArray) (a4:Option Addr) (n4 c4:Nat) (a5:Option Addr) (c5:Nat) (l:List Tr) (vs:List Value) (w:World) (hr:J7 w (.slice a5 l.length c5) vs) (hk:yJ w l vs) (hl:l.length≤4096) :
 Calls prog 80 #[.agg #[.int .i64 k,.int .i64 n,.int .u64 u,.string s,.slice a4 n4 c4,.slice a5 l.length c5],.func (.func 81) #[] #[]] w fun r w'=>∃v',r=.returned v'∧w'.ownsRow w.heap.size 4 1 v' (l.map (fun t=>decide (t.fn=1))).length ((l.map (fun t=>decide (t.fn=1))).map fun x=>.bool x)∧jD w w':=by
 obtain⟨MR,hMR⟩:∃MR,(l.map (fun t=>decide (t.fn=1)))=MR:=⟨_,rfl⟩
 rw[hMR]
 have HMR:=zh hMR
 clear hMR
 have HR:=zh hr
 have HK:=zh hk
 clear hr hk
 have jJ:=heap_alloc_new w (.cells #[.int .i64 k,.int .i64 n,.int .u64 u,.string s,.slice a4 n4 c4,.slice a5 l.length c5] 26)
 have HG0:=zh ((jD.refl w).alloc (.cells #[.int .i64 k,.int .i64 n,.int .u64 u,.string s,.slice a4 n4 c4,.slice a5 l.length c5] 26))
 have HS0:=zh (World.size_alloc w (.cells #[.int .i64 k,.int .i64 n,.int .u64 u,.string s,.slice a4 n4 c4,.slice a5 l.length c5] 26))
 have g5:=jB jJ 5 _ rfl
 clear jJ
 go_enter func80,ntmps80
 go_wp2_with fail
 generalize (w.alloc (.cells #[.int .i64 k,.int .i64 n,.int .u64 u,.string s,.slice a4 n4 c4,.slice a5 l.length c5] 26))=w1 at *
 go_loopw [4,10] (fun v i wr=>∃q:Nat,q≤l.length∧i=.int .i64 q∧Hid (wr.ownsRow w1.heap.size 4 1 v ((l.take q).map (fun t=>decide (t.fn=1))).length (((l.take q).map (fun t=>decide (t.fn=1))).map fun x=>.bool x)∧jD w1 wr)) (fun _ i _=>l.length - (intOf i).toNat)
 case atStart=>exact⟨0,Nat.zero_le _,rfl,by
  show _∧_
  exact⟨World.ownsRow_nil _ _ _ _,jD.refl _⟩⟩
 case round=>
  obtain⟨q,hq,rfl,HW⟩:=hrel
  by_cases hlt:q < l.length
  ·obtain⟨x,hx⟩:∃x,l[q]? = some x:=⟨_,List.getElem?_eq_getElem hlt⟩
   obtain⟨xv,hxv,hnx⟩:=HK.out.get hx
   have HSN:Hid ((l.take (q+1)).map (fun t=>decide (t.fn=1))=((l.take q).map (fun t=>decide (t.fn=1)))++[((fun t=>decide (t.fn=1))) x]):=by show _=_;rw[List.take_add_one,hx];simp
   obtain⟨b,off,rfl,hc6⟩:∃b off,a5=some ⟨b,off,none⟩∧qI wr b (off+q*6) xv:=by
    obtain⟨a,c,e,_,_,_,h⟩:=HR.out
    injection e with e1 e2 e3
    subst e1
    obtain⟨b,off,e,h6⟩:=h q xv hxv
    exact⟨b,off,e,(h6.grew HG0.out).grew HW.out.2⟩
   obtain⟨xk,xn,xu,xs,xa4,xn4,xc4,xa5,xn5,xc5,rfl⟩:=hnx.node6
   obtain⟨f1,f2,f3,f4,f5,f6⟩:=BP hnx
   obtain⟨e0,e1,e2,e3,e4,e5⟩:=hc6.get
   have HO:=zh HW.out.1
   have HG:=zh HW.out.2
   have hlm:((l.take q).map (fun t=>decide (t.fn=1))).length=q:=by rw[List.length_map,List.length_take];omega
   generalize ((l.take q).map (fun t=>decide (t.fn=1)))=M at *
   have HLM:=zh hlm
   obtain⟨va,vc,hvf,hz1,hz2,hz3⟩:=jR HO.out
   rw[hlm] at hvf
   subst hvf
   have HX:Hid (((fun t=>decide (t.fn=1))) x=decide (xn=1)):=by show _=_;rw[f1]
   have HF6:=zh f6
   clear hc6 hx hxv hnx hz1 hz2 hz3 hlm HW f1 f2 f3 f4 f5 f6
   have hqi:(q:Int) < l.length:=by omega
   have hqb:q < 4096:=by omega
   have HQB:=zh hqb
   clear hqb
   go_wp2_with fail
   have HGR:=zh ((jD.refl wr).alloc (.cells #[.int .i64 xk,.int .i64 xn,.int .u64 xu,.string xs,.slice xa4 xn4 xc4,.slice xa5 xn5 xc5] 26))
   generalize (wr.alloc (.cells #[.int .i64 xk,.int .i64 xn,.int .u64 xu,.string xs,.slice xa4 xn4 xc4,.slice xa5 xn5 xc5] 26))=ws at *
   refine (u9 xk xn xu xs xa4 xn4 xc4 xa5 xn5 xc5 ws).mono ?_
   obtain⟨X,hX⟩:∃X,decide (xn=1)=X:=⟨_,rfl⟩
   rw[hX] at HX⊢
   rintro r w4 ⟨rfl,hg4⟩
   have HG4:=zh (HGR.out.trans hg4)
   have HO4:=zh (qE HO.out HG4.out)
   clear hg4 e0 e1 e2 e3 e4 e5
   clear hX
   go_wp2_with (at_builtin;refine V4 (fun x=>.bool x) (fun _=>rfl) 123 4 (.bool false) 1 underlying123 DT rfl (by decide) rfl _ _ rfl w1.heap.size (.slice va q vc) M rfl (qE HO4.out ((jD.refl _).alloc _)) _ [X] rfl (dZ (fun x=>.bool x) _ _ X) (fun n c e=>by cases e) (by have:=HLM.out;have:=HQB.out;simp only[List.length_cons,List.length_nil];omega) (Nat.le_trans (HG.out.trans HG4.out).size (by simp)) ?_;intro v' w5 kC hgr hnx;have HG3:Hid (jD w1 w5):=aL (qE HO4.out ((jD.refl _).alloc _)) ((HG.out.trans HG4.out).alloc _) hgr;have HO3:=zh kC;obtain⟨va2,vc2,hvf2,hz1,hz2,hz3⟩:=jR kC;rw[List.length_append,HLM.out] at hvf2;subst hvf2;clear kC hgr hnx hz1 hz2 hz3)
   go_roundw
   case rel=>
    refine⟨q+1,by omega,by go_num,?_⟩
    show _∧_
    rw[HSN.out,HX.out]
    exact⟨HO3.out,HG3.out⟩
   case measure=>simp[intOf];omega
  ·have eq:q=l.length:=by omega
   subst eq
   have hqi:¬((l.length:Nat):Int) < l.length:=by omega
   have hf:=HW.out
   rw[List.take_length,HMR.out] at hf
   obtain⟨va,vc,rfl,hz1,hz2,hz3⟩:=jR hf.1
   have HF:=zh hf
   clear HW hf hz1 hz2 hz3
   go_wp2
   go_ret
   exact⟨.slice va MR.length vc,rfl,y9 HF.out.1 HG0.out.size,HG0.out.trans HF.out.2⟩
theorem DW (k n u:Int) (s:ByteArray) (a4:Option Addr) (n4 c4:Nat) (a5:Option Addr) (c5:Nat) (l:List Tr) (vs:List Value) (w:World) (hr:J7 w (.slice a5 l.length c5) vs) (hk:yJ w l vs) (hl:l.length≤4096) :
 Calls prog 83 #[.agg #[.int .i64 k,.int .i64 n,.int .u64 u,.string s,.slice a4 n4 c4,.slice a5 l.length c5],.func (.func 84) #[] #[]] w fun r w'=>∃v',r=.returned v'∧w'.ownsRow w.heap.size 9 1 v' (l.map Tr.fs).length ((l.map Tr.fs).map fun x=>.string x)∧jD w w':=by
 obtain⟨MR,hMR⟩:∃MR,(l.map Tr.fs)=MR:=⟨_,rfl⟩
 rw[hMR]
 have HMR:=zh hMR
 clear hMR
 have HR:=zh hr
 have HK:=zh hk
 clear hr hk
 have jJ:=heap_alloc_new w (.cells #[.int .i64 k,.int .i64 n,.int .u64 u,.string s,.slice a4 n4 c4,.slice a5 l.length c5] 26)
 have HG0:=zh ((jD.refl w).alloc (.cells #[.int .i64 k,.int .i64 n,.int .u64 u,.string s,.slice a4 n4 c4,.slice a5 l.length c5] 26))
 have HS0:=zh (World.size_alloc w (.cells #[.int .i64 k,.int .i64 n,.int .u64 u,.string s,.slice a4 n4 c4,.slice a5 l.length c5] 26))
 have g5:=jB jJ 5 _ rfl
 clear jJ
 go_enter func83,ntmps83
 go_wp2_with fail
 generalize (w.alloc (.cells #[.int .i64 k,.int .i64 n,.int .u64 u,.string s,.slice a4 n4 c4,.slice a5 l.length c5] 26))=w1 at *
 go_loopw [4,10] (fun v i wr=>∃q:Nat,q≤l.length∧i=.int .i64 q∧Hid (wr.ownsRow w1.heap.size 9 1 v ((l.take q).map Tr.fs).length (((l.take q).map Tr.fs).map fun x=>.string x)∧jD w1 wr)) (fun _ i _=>l.length - (intOf i).toNat)
 case atStart=>exact⟨0,Nat.zero_le _,rfl,by
  show _∧_
  exact⟨World.ownsRow_nil _ _ _ _,jD.refl _⟩⟩
 case round=>
  obtain⟨q,hq,rfl,HW⟩:=hrel
  by_cases hlt:q < l.length
  ·obtain⟨x,hx⟩:∃x,l[q]? = some x:=⟨_,List.getElem?_eq_getElem hlt⟩
   obtain⟨xv,hxv,hnx⟩:=HK.out.get hx
   have HSN:Hid ((l.take (q+1)).map Tr.fs=((l.take q).map Tr.fs)++[(Tr.fs) x]):=by show _=_;rw[List.take_add_one,hx];simp
   obtain⟨b,off,rfl,hc6⟩:∃b off,a5=some ⟨b,off,none⟩∧qI wr b (off+q*6) xv:=by
    obtain⟨a,c,e,_,_,_,h⟩:=HR.out
    injection e with e1 e2 e3
    subst e1
    obtain⟨b,off,e,h6⟩:=h q xv hxv
    exact⟨b,off,e,(h6.grew HG0.out).grew HW.out.2⟩
   obtain⟨xk,xn,xu,xs,xa4,xn4,xc4,xa5,xn5,xc5,rfl⟩:=hnx.node6
   obtain⟨f1,f2,f3,f4,f5,f6⟩:=BP hnx
   obtain⟨e0,e1,e2,e3,e4,e5⟩:=hc6.get
   have HO:=zh HW.out.1
   have HG:=zh HW.out.2
   have hlm:((l.take q).map Tr.fs).length=q:=by rw[List.length_map,List.length_take];omega
   generalize ((l.take q).map Tr.fs)=M at *
   have HLM:=zh hlm
   obtain⟨va,vc,hvf,hz1,hz2,hz3⟩:=jR HO.out
   rw[hlm] at hvf
   subst hvf
   have HX:Hid ((Tr.fs) x=xs):=by show _=_;exact f3.symm
   have HF6:=zh f6
   clear hc6 hx hxv hnx hz1 hz2 hz3 hlm HW f1 f2 f3 f4 f5 f6
   have hqi:(q:Int) < l.length:=by omega
   have hqb:q < 4096:=by omega
   have HQB:=zh hqb
   clear hqb
   go_wp2_with fail
   have HGR:=zh ((jD.refl wr).alloc (.cells #[.int .i64 xk,.int .i64 xn,.int .u64 xu,.string xs,.slice xa4 xn4 xc4,.slice xa5 xn5 xc5] 26))
   generalize (wr.alloc (.cells #[.int .i64 xk,.int .i64 xn,.int .u64 xu,.string xs,.slice xa4 xn4 xc4,.slice xa5 xn5 xc5] 26))=ws at *
   refine (DU xk xn xu xs xa4 xn4 xc4 xa5 xn5 xc5 ws).mono ?_
   obtain⟨X,hX⟩:∃X,xs=X:=⟨_,rfl⟩
   skip
   rintro r w4 ⟨rfl,hg4⟩
   have HG4:=zh (HGR.out.trans hg4)
   have HO4:=zh (qE HO.out HG4.out)
   clear hg4 e0 e1 e2 e3 e4 e5
   subst hX
   have HXZ:Hid (kF xs.size):=by show kF _;rw[← HX.out];exact HF6.out
   have HO5:Hid (∀o,zE (w4.alloc o) w1.heap.size (.slice va M.length vc) M):=fun o=>by rw[HLM.out];have h:=qE HO4.out ((jD.refl w4).alloc o);rw[HLM.out] at h;show World.ownsRow _ _ _ _ _ M.length _;rw[HLM.out];exact h
   go_wp2_with (at_builtin;refine JT rfl _ _ rfl w1.heap.size (.slice va q vc) M rfl (by have h:=HO5.out;rw[HLM.out] at h;exact h _) _ [xs] rfl (gE _ _ HXZ.out) (by have:=HLM.out;have:=HQB.out;simp only[List.length_cons,List.length_nil];omega) (Nat.le_trans (HG.out.trans HG4.out).size (by simp)) ?_;intro v' w5 kC hgr hnx;have HG3:Hid (jD w1 w5):=aL (qE HO4.out ((jD.refl _).alloc _)) ((HG.out.trans HG4.out).alloc _) hgr;have HO3:=zh kC;obtain⟨va2,vc2,hvf2,hz1,hz2,hz3⟩:=jR kC;rw[List.length_append,HLM.out] at hvf2;subst hvf2;clear kC hgr hnx hz1 hz2 hz3)
   go_roundw
   case rel=>
    refine⟨q+1,by omega,by go_num,?_⟩
    show _∧_
    rw[HSN.out,HX.out]
    exact⟨HO3.out,HG3.out⟩
   case measure=>simp[intOf];omega
  ·have eq:q=l.length:=by omega
   subst eq
   have hqi:¬((l.length:Nat):Int) < l.length:=by omega
   have hf:=HW.out
   rw[List.take_length,HMR.out] at hf
   obtain⟨va,vc,rfl,hz1,hz2,hz3⟩:=jR hf.1
   have HF:=zh hf
   clear HW hf hz1 hz2 hz3
   go_wp2
   go_ret
   exact⟨.slice va MR.length vc,rfl,y9 HF.out.1 HG0.out.size,HG0.out.trans HF.out.2⟩
theorem F7 {B:Nat} {q:zK} {jA jC:Int} {κ:Nat→Nat} {x:BS} {w:World} (k n u:Int) (s:ByteArray) (a4:Option Addr) (n4 c4:Nat) (a5:Option Addr) (n5 c5:Nat) (hn:qH n) (hu:vT u) (hs:s.size≤1048576) (hg:x.Good) (h:Bd B q jA jC κ x w):Calls prog 93 #[jI q.p,.agg #[.int .i64 k,.int .i64 n,.int .u64 u,.string s,.slice a4 n4 c4,.slice a5 n5 c5]] w fun r w'=>r=.returned (.tuple #[])∧kN B q jA jC κ (ZU jA jC k n u s x) w w':=by
 have HB:=zh h
 have HG:=zh hg
 have HN:Hid (-9223372036854775808≤n∧n≤9223372036854775807):=hn
 have HU:Hid (0≤u∧u≤18446744073709551615):=hu
 have HS:=zh hs
 have jJ:=heap_alloc_new w (.cells #[.int .i64 k,.int .i64 n,.int .u64 u,.string s,.slice a4 n4 c4,.slice a5 n5 c5] 26)
 have HGA:=zh ((jD.refl w).alloc (.cells #[.int .i64 k,.int .i64 n,.int .u64 u,.string s,.slice a4 n4 c4,.slice a5 n5 c5] 26))
 have g0:=jB jJ 0 _ rfl
 have g1:=jB jJ 1 _ rfl
 have g2:=jB jJ 2 _ rfl
 have g3:=jB jJ 3 _ rfl
 have g4:=jB jJ 4 _ rfl
 have g5:=jB jJ 5 _ rfl
 clear h hg hn hu hs jJ
 have hk10:k=1∨k=2∨k=3∨k=4∨k=8∨k=9∨k=5∨k=6∨k=7∨(k≠1∧k≠2∧k≠3∧k≠4∧k≠8∧k≠9∧k≠5∧k≠6∧k≠7):=by omega
 obtain rfl|rfl|rfl|rfl|rfl|rfl|rfl|rfl|rfl|⟨m1,m2,m3,m4,m8,m9,m5,m6,m7⟩:=hk10
 ·have HD:Hid (ZU jA jC 1 n u s x=x.inline (0,1,0)):=rfl
  go_enter func93,ntmps93
  go_wp2_with fail
  refine (C1 (HB.out.grew HGA.out)).mono ?_
  rintro r w2 ⟨rfl,ht⟩
  have HT2:=zh (ht.after HGA.out)
  clear ht
  go_wp2
  go_end0
  exact⟨rfl,by rw[HD.out];exact HT2.out⟩
 ·have HD:Hid (ZU jA jC 2 n u s x=x.inline (yQ (decide (n=1)))):=rfl
  go_enter func93,ntmps93
  go_wp2_with fail
  refine (u9 2 n u s a4 n4 c4 a5 n5 c5 _).mono ?_
  rintro r w1 ⟨rfl,hg1⟩
  have HG1:=zh (HGA.out.trans hg1)
  obtain⟨ob,hob⟩:∃b,decide (n=1)=b:=⟨_,rfl⟩
  rw[hob] at HD⊢
  clear hg1 hob
  go_wp2_with fail
  refine (C2 ob (HB.out.grew HG1.out)).mono ?_
  rintro r w2 ⟨rfl,ht⟩
  have HT2:=zh (ht.after HG1.out)
  clear ht
  go_wp2
  go_end0
  exact⟨rfl,by rw[HD.out];exact HT2.out⟩
 ·have HD:Hid (ZU jA jC 3 n u s x=x.inline (qX n)):=rfl
  go_enter func93,ntmps93
  go_wp2_with fail
  refine (FG n HN.out.1 HN.out.2 (HB.out.grew HGA.out)).mono ?_
  rintro r w2 ⟨rfl,ht⟩
  have HT2:=zh (ht.after HGA.out)
  clear ht
  go_wp2
  go_end0
  exact⟨rfl,by rw[HD.out];exact HT2.out⟩
 ·have HD:Hid (ZU jA jC 4 n u s x=x.inline (qY u)):=rfl
  go_enter func93,ntmps93
  go_wp2_with fail
  refine (C3 u HU.out.1 HU.out.2 (HB.out.grew HGA.out)).mono ?_
  rintro r w2 ⟨rfl,ht⟩
  have HT2:=zh (ht.after HGA.out)
  clear ht
  go_wp2
  go_end0
  exact⟨rfl,by rw[HD.out];exact HT2.out⟩
 ·have HD:Hid (ZU jA jC 8 n u s x=x.apart jA 6 (qX n)):=rfl
  go_enter func93,ntmps93
  go_wp2_with fail
  refine (tU n HN.out.1 HN.out.2 (HB.out.grew HGA.out)).mono ?_
  rintro r w2 ⟨rfl,ht⟩
  have HT2:=zh (ht.after HGA.out)
  clear ht
  go_wp2
  go_end0
  exact⟨rfl,by rw[HD.out];exact HT2.out⟩
 ·have HD:Hid (ZU jA jC 9 n u s x=x.apart jA 7 (qY u)):=rfl
  go_enter func93,ntmps93
  go_wp2_with fail
  refine (p4 u HU.out.1 HU.out.2 (HB.out.grew HGA.out)).mono ?_
  rintro r w2 ⟨rfl,ht⟩
  have HT2:=zh (ht.after HGA.out)
  clear ht
  go_wp2
  go_end0
  exact⟨rfl,by rw[HD.out];exact HT2.out⟩
 ·have HD:Hid (ZU jA jC 5 n u s x=x.key jA (onF jC 1) s):=rfl
  go_enter func93,ntmps93
  go_wp2_with fail
  refine (tW s HS.out HG.out (HB.out.grew HGA.out)).mono ?_
  rintro r w2 ⟨rfl,ht⟩
  have HT2:=zh (ht.after HGA.out)
  clear ht
  go_wp2
  go_end0
  exact⟨rfl,by rw[HD.out];exact HT2.out⟩
 ·have HD:Hid (ZU jA jC 6 n u s x=x.str jA (onF jC 2) s):=rfl
  go_enter func93,ntmps93
  go_wp2_with fail
  refine (FJ s HS.out HG.out (HB.out.grew HGA.out)).mono ?_
  rintro r w2 ⟨rfl,ht⟩
  have HT2:=zh (ht.after HGA.out)
  clear ht
  go_wp2
  go_end0
  exact⟨rfl,by rw[HD.out];exact HT2.out⟩
 ·have HD:Hid (ZU jA jC 7 n u s x=x.blob jA s):=rfl
  go_enter func93,ntmps93
  go_wp2_with fail
  refine (C5 s HS.out HG.out (HB.out.grew HGA.out)).mono ?_
  rintro r w2 ⟨rfl,ht⟩
  have HT2:=zh (ht.after HGA.out)
  clear ht
  go_wp2
  go_end0
  exact⟨rfl,by rw[HD.out];exact HT2.out⟩
 ·have HD:Hid (ZU jA jC k n u s x=x):=by show _=_;unfold ZU;rw[if_neg m1,if_neg m2,if_neg m3,if_neg m4,if_neg m8,if_neg m9,if_neg m5,if_neg m6,if_neg m7]
  have q1:(k == 1)=false:=by simpa using m1
  have q2:(k == 2)=false:=by simpa using m2
  have q3:(k == 3)=false:=by simpa using m3
  have q4:(k == 4)=false:=by simpa using m4
  have q5:(k == 5)=false:=by simpa using m5
  have q6:(k == 6)=false:=by simpa using m6
  have q7:(k == 7)=false:=by simpa using m7
  have q8:(k == 8)=false:=by simpa using m8
  have q9:(k == 9)=false:=by simpa using m9
  clear m1 m2 m3 m4 m8 m9 m5 m6 m7
  go_enter func93,ntmps93
  go_wp2
  go_end0
  exact⟨rfl,by rw[HD.out];exact (HB.out.grew HGA.out).refl.after HGA.out⟩
section
variable {B:Nat} {q:zK} {jA jC:Int} {κ κ0:Nat→Nat} {x y:BS} {W w w0:World} {Kp:List (Nat × Obj)}
theorem Env.old (h0:Bd B q jA jC κ0 y w0) (hW:jD W w0) (hB:W.heap.size≤B) (h:Env B q jA jC w0 κ0 Kp x w):jD W w:=by
 obtain⟨κ,_,h2,_⟩:=h
 exact Moved.fresh hW h2.1 (fun g hg=>Nat.le_trans hB (h0.lt g hg).1)
theorem F8 (h:Bd B q jA jC κ x w):Calls prog 87 #[jI q.p] w fun r w'=>r=.returned (.int .i64 x.stk.length)∧w'=w:=by
 have HB:=zh h
 clear h
 go_enter func87,ntmps87
 go_wp2_with fail
 refine (tR HB.out).mono ?_
 rintro r w' ⟨rfl,rfl⟩
 go_wp2
 go_ret
 exact⟨rfl,rfl⟩
theorem F9 (h:Bd B q jA jC κ x w):Calls prog 89 #[jI q.p] w fun r w'=>r=.returned (.int .i64 x.stk.length)∧w'=w:=by
 have HB:=zh h
 clear h
 go_enter func89,ntmps89
 go_wp2_with fail
 refine (tR HB.out).mono ?_
 rintro r w' ⟨rfl,rfl⟩
 go_wp2
 go_ret
 exact⟨rfl,rfl⟩
end
theorem GA {jA jC n u:Int} {s:ByteArray} {keys:List ByteArray} {l:List Tr} {x:BS}:kG jA jC (.mk 10 n u s keys l) x=(yK jA jC l x).endVec jA x.stk.length:=by simp only[kG];rfl
theorem GB {jA jC n u:Int} {s:ByteArray} {keys:List ByteArray} {l:List Tr} {x:BS}:kG jA jC (.mk 17 n u s keys l) x=(yN jA jC l keys x).endMap jA (onF jC 4) x.stk.length:=by simp only[kG];rfl
theorem GC {jA jC n u:Int} {s:ByteArray} {keys:List ByteArray} {l:List Tr} {x:BS}:kG jA jC (.mk 11 n u s keys l) x=x.vector jA 1 0 ((l.map Tr.fn).map qX):=by simp only[kG,List.map_map];rfl
theorem GD {jA jC n u:Int} {s:ByteArray} {keys:List ByteArray} {l:List Tr} {x:BS}:kG jA jC (.mk 12 n u s keys l) x=x.vector jA 2 0 ((l.map Tr.fu).map qY):=by simp only[kG,List.map_map];rfl
theorem GE {jA jC n u:Int} {s:ByteArray} {keys:List ByteArray} {l:List Tr} {x:BS}:kG jA jC (.mk 14 n u s keys l) x=x.vector jA 26 0 ((l.map fun t=>decide (t.fn=1)).map yQ):=by simp only[kG,List.map_map];rfl
theorem GF {jA jC n u:Int} {s:ByteArray} {keys:List ByteArray} {l:List Tr} {x:BS}:kG jA jC (.mk 13 n u s keys l) x=x.keyVec jA (onF jC 1) (l.map Tr.fs):=by simp only[kG];rfl
theorem GG {jA jC n u:Int} {s:ByteArray} {keys:List ByteArray} {l:List Tr} {x:BS}:kG jA jC (.mk 15 n u s keys l) x=x.fixed jA 1 ((l.map Tr.fn).map qX):=by simp only[kG,List.map_map];rfl
theorem GH {jA jC n u:Int} {s:ByteArray} {keys:List ByteArray} {l:List Tr} {x:BS}:kG jA jC (.mk 16 n u s keys l) x=x.fixed jA 2 ((l.map Tr.fu).map qY):=by simp only[kG,List.map_map];rfl
theorem AP {jA jC k n u:Int} {s:ByteArray} {keys:List ByteArray} {l:List Tr} {x:BS} (h:k≠11∧k≠12∧k≠14∧k≠13∧k≠15∧k≠16∧k≠10∧k≠17):kG jA jC (.mk k n u s keys l) x=ZU jA jC k n u s x:=by
 obtain⟨h1,h2,h3,h4,h5,h6,h7,h8⟩:=h
 simp only[kG,if_neg h1,if_neg h2,if_neg h3,if_neg h4,if_neg h5,if_neg h6,if_neg h7,if_neg h8]
theorem DX {B:Nat} {q:zK} {jA jC:Int} {κ:Nat→Nat} {x:BS} {W w:World} (n1 n2:Nat) (k n u:Int) (s:ByteArray) (kb ko:Nat) (keys:List ByteArray) (c4:Nat) (lb lo:Nat) (l:List Tr) (c5:Nat) (i:Nat) (key:ByteArray) (t:Tr) (xk xn xu:Int) (xs:ByteArray) (xa4:Option Addr) (xn4 xc4:Nat) (xa5:Option Addr) (xn5 xc5:Nat) (hWB:W.heap.size≤B) (hW:jD W w) (hik:i < keys.length) (hil:i < l.length) (hkl:keys.length≤4096) (hll:l.length≤4096) (hck:W.cell? ⟨kb,ko+i,none⟩=some (.string key)) (hkz:key.size≤1048576) (hc6:qI W lb (lo+i*6) (.agg #[.int .i64 xk,.int .i64 xn,.int .u64 xu,.string xs,.slice xa4 xn4 xc4,.slice xa5 xn5 xc5])) (ih:∀(κ1:Nat→Nat) (y:BS) (w1:World),jD W w1→y.Good→Bd B q jA jC κ1 y w1→Calls prog 46 #[jI q.p,.agg #[.int .i64 xk,.int .i64 xn,.int .u64 xu,.string xs,.slice xa4 xn4 xc4,.slice xa5 xn5 xc5]] w1 fun r w'=>r=.returned (.tuple #[])∧kN B q jA jC κ1 (kG jA jC t y) w1 w') (hg:x.Good) (hb:Bd B q jA jC κ x w) (he:Env B q jA jC w κ [(n2,Obj.cells #[.int .i64 k,.int .i64 n,.int .u64 u,.string s,.slice (some ⟨kb,ko,none⟩) keys.length c4,.slice (some ⟨lb,lo,none⟩) l.length c5] 26 (0,0)),(n1,Obj.cells #[jI q.p] 70 (0,0))] x w):Calls prog 90 #[.int .i64 i,.pointer (some ⟨n1,0,none⟩),.pointer (some ⟨n2,0,none⟩)] w fun r w'=>r=.returned (.tuple #[])∧kN B q jA jC κ (kG jA jC t (x.key jA (onF jC 1) key)) w w':=by
 have HE:=zh he
 have HB:=zh hb
 have HG:=zh hg
 have HGK:Hid ((x.key jA (onF jC 1) key).Good):=hg.key
 have HKZ:=zh hkz
 have HWB:=zh hWB
 have HGW:=zh hW
 have HIH:=zh ih
 have HC6:=zh hc6
 have HM2:Hid ((n2,Obj.cells #[.int .i64 k,.int .i64 n,.int .u64 u,.string s,.slice (some ⟨kb,ko,none⟩) keys.length c4,.slice (some ⟨lb,lo,none⟩) l.length c5] 26 (0,0))∈([(n2,Obj.cells #[.int .i64 k,.int .i64 n,.int .u64 u,.string s,.slice (some ⟨kb,ko,none⟩) keys.length c4,.slice (some ⟨lb,lo,none⟩) l.length c5] 26 (0,0)),(n1,Obj.cells #[jI q.p] 70 (0,0))]:List (Nat × Obj))):=List.mem_cons_self
 have HM1:Hid ((n1,Obj.cells #[jI q.p] 70 (0,0))∈([(n2,Obj.cells #[.int .i64 k,.int .i64 n,.int .u64 u,.string s,.slice (some ⟨kb,ko,none⟩) keys.length c4,.slice (some ⟨lb,lo,none⟩) l.length c5] 26 (0,0)),(n1,Obj.cells #[jI q.p] 70 (0,0))]:List (Nat × Obj))):=List.mem_cons_of_mem _ List.mem_cons_self
 have cb:=Env.cell he HM1.out 0 _ rfl
 have f4:=Env.cell he HM2.out 4 _ rfl
 have ck:=hW.cell hck
 have hiki:(i:Int) < keys.length:=by omega
 have hili:(i:Int) < l.length:=by omega
 clear he hb hg hkz hWB hW ih hc6 hck hik hil
 go_enter func90,ntmps90
 go_wp2_with fail
 refine zZ jD 6 [[],[],[1],[],[1,2,3],[1,2,3,4],[0,1,2,3,4,5]] [[(5,1),(6,2),(7,3),(8,4),(9,5)],[(4,0),(7,3)],[(4,0),(5,1),(7,3)],[(4,0),(5,1),(6,2)],[(4,0),(5,1),(6,2),(7,3)],[(4,0),(5,1),(6,2),(7,3),(8,4)],[(4,0),(5,1),(6,2),(7,3),(8,4),(9,5)]] [(4,0),(5,1),(6,2),(7,3),(8,4),(9,5)]
  [Is (jI q.p),Is (.pointer (some ⟨n2,4,none⟩)),Is (.slice (some ⟨kb,ko,none⟩) keys.length c4),Is (.int .i64 i),Is (.pointer (some ⟨kb,ko+i,none⟩)),Is (.string key)]
  zk jD.trans jD.refl (jD.refl _).drew zk ⟨jN,jN,jN,jN,jN,jN,trivial⟩ rfl ?_ ?_
 rotate_left
 ·intro y w2 hG hF
  simp only[yG,Is,and_true,Nat.reduceAdd] at hF
  have h0:=hF.1
  have h1:=hF.2.1
  have h2:=hF.2.2.1
  have h3:=hF.2.2.2.1
  have h4:=hF.2.2.2.2.1
  have h5:=hF.2.2.2.2.2
  clear hF
  simp only[jE,Act.put,zq1,zq2,zq3,zq4,zq5,List.drop_succ_cons,List.drop_zero]
  simp only[h0,h1,h2,h3,h4,h5]
  clear h0 h1 h2 h3 h4 h5
  have HW1:=zh (HE.out.grew hG)
  clear hG cb f4 ck
  go_wp2_with fail
  refine (HW1.out.call fun κ1 hb hz=>tW key HKZ.out HG.out hb).mono ?_
  rintro r w3 ⟨rfl,he⟩
  have HEV:=zh he
  have HGW4:=zh (Env.old HB.out HGW.out HWB.out he)
  have cb:=Env.cell he HM1.out 0 _ rfl
  have f5:=Env.cell he HM2.out 5 _ rfl
  obtain⟨e0,e1,e2,e3,e4,e5⟩:=(HC6.out.grew HGW4.out).get
  clear he
  go_wp2_with fail
  refine zZ jD 6 [[],[],[1],[],[1,2,3],[1,2,3,4],[0,1,2,3,4,5]] [[(12,1),(13,2),(14,3),(15,4),(16,5)],[(11,0),(14,3)],[(11,0),(12,1),(14,3)],[(11,0),(12,1),(13,2)],[(11,0),(12,1),(13,2),(14,3)],[(11,0),(12,1),(13,2),(14,3),(15,4)],[(11,0),(12,1),(13,2),(14,3),(15,4),(16,5)]] [(11,0),(12,1),(13,2),(14,3),(15,4),(16,5)]
   [Is (jI q.p),Is (.pointer (some ⟨n2,5,none⟩)),Is (.slice (some ⟨lb,lo,none⟩) l.length c5),Is (.int .i64 i),Is (.pointer (some ⟨lb,lo+i*6,none⟩)),Is (.agg #[.int .i64 xk,.int .i64 xn,.int .u64 xu,.string xs,.slice xa4 xn4 xc4,.slice xa5 xn5 xc5])]
   zk jD.trans jD.refl (jD.refl _).drew zk ⟨jN,jN,jN,jN,jN,jN,trivial⟩ rfl ?_ ?_
  rotate_left
  ·intro y w2 hG hF
   simp only[yG,Is,and_true,Nat.reduceAdd] at hF
   have h0:=hF.1
   have h1:=hF.2.1
   have h2:=hF.2.2.1
   have h3:=hF.2.2.2.1
   have h4:=hF.2.2.2.2.1
   have h5:=hF.2.2.2.2.2
   clear hF
   simp only[jE,Act.put,zq1,zq2,zq3,zq4,zq5,List.drop_succ_cons,List.drop_zero]
   simp only[h0,h1,h2,h3,h4,h5]
   clear h0 h1 h2 h3 h4 h5
   have HW5:=zh (HEV.out.grew hG)
   have HGW5:=zh (HGW4.out.trans hG)
   clear hG
   go_wp2_with fail
   refine (HW5.out.call fun κ1 hb hz=>HIH.out κ1 _ w2 HGW5.out HGK.out hb).mono ?_
   rintro r w3 ⟨rfl,he⟩
   have HT:=zh he
   clear he
   go_wp2
   go_end0
   exact⟨rfl,HT.out.turn⟩
  refine⟨?_,?_⟩
  ·intro y w2 hG hD K hK
   have dcb:=hG.cell cb
   exact zsr
  refine⟨zst,?_⟩
  refine⟨?_,?_⟩
  ·intro y w2 hG hD K hK
   have df5:=hG.cell f5
   exact zsr
  refine⟨zst,zst,?_⟩
  refine⟨?_,?_⟩
  ·intro y w2 hG hD K hK
   have de0:=hG.cell e0
   have de1:=hG.cell e1
   have de2:=hG.cell e2
   have de3:=hG.cell e3
   have de4:=hG.cell e4
   have de5:=hG.cell e5
   exact zsr
  trivial
 refine⟨?_,?_⟩
 ·intro y w2 hG hD K hK
  have dcb:=hG.cell cb
  exact zsr
 refine⟨zst,?_⟩
 refine⟨?_,?_⟩
 ·intro y w2 hG hD K hK
  have df4:=hG.cell f4
  exact zsr
 refine⟨zst,zst,?_⟩
 refine⟨?_,?_⟩
 ·intro y w2 hG hD K hK
  have dck:=hG.cell ck
  exact zsr
 trivial
theorem DY {B:Nat} {q:zK} {jA jC:Int} {W:World} (hWB:W.heap.size≤B):∀(m:Nat) (t:Tr),t.size≤m→∀(v:Value) (κ:Nat→Nat) (x:BS) (w:World),k7 W t v→okE t→jD W w→x.Good→Bd B q jA jC κ x w→Calls prog 46 #[jI q.p,v] w fun r w'=>r=.returned (.tuple #[])∧kN B q jA jC κ (kG jA jC t x) w w':=by
 have HWB:=zh hWB
 clear hWB
 intro m
 induction m with
 | zero=>intro t ht;have:=t.size_pos;omega
 | succ m ih=>
  intro t ht v κ x w hn hok hW hg h
  obtain⟨k,n,u,s,keys,l⟩:=t
  have hrg:=lA hn
  simp only[k7] at hn
  obtain⟨hb,kv,lv,vs,rfl,hks,yZ,qP⟩:=hn
  have hkl:vs.length=l.length:=qP.length
  obtain⟨⟨o1,o2,o3,o4⟩,o5⟩:=hok
  have ho5:=okEL_iff.1 o5
  have hrl:=rngL_iff.1 hrg.2
  obtain⟨rn,ru⟩:=hrg.1
  have HKS:=zh hks
  have HK:=zh qP
  obtain⟨a4,c4,rfl,hx1,hx2,hx3,hx4⟩:=hks
  clear hx1 hx2 hx3 hx4
  have kY:=zh yZ
  obtain⟨a5,c5,rfl,hx1,hc5,hx3,hx4⟩:=yZ
  clear hx1 hx3 hx4
  rw[hkl] at kY⊢
  have HSZ:Hid (∀x∈l,x.size≤m):=fun x hx=>by have:=yA hx;simp only[Tr.size] at ht;omega
  have HOK:=zh ho5
  have HRL:=zh hrl
  have HB:=zh h
  have HG:=zh hg
  have HGW:=zh hW
  have HZ:=zh (And.intro o1 (And.intro o2 o4))
  have HLL:=zh o3
  have HRN:=zh (And.intro rn ru)
  have HIH:=zh ih
  obtain⟨N,hN⟩:∃N,w.heap.size=N:=⟨_,rfl⟩
  have HE:Hid (Env B q jA jC w κ [(N+1,Obj.cells #[.int .i64 k,.int .i64 n,.int .u64 u,.string s,.slice a4 keys.length c4,.slice a5 l.length c5] 26 (0,0)),(N,Obj.cells #[jI q.p] 70 (0,0))] x ((w.alloc (.cells #[jI q.p] 70)).alloc (.cells #[.int .i64 k,.int .i64 n,.int .u64 u,.string s,.slice a4 keys.length c4,.slice a5 l.length c5] 26))):=by
   have hh:=((Env.start h).add (.cells #[jI q.p] 70)).add (.cells #[.int .i64 k,.int .i64 n,.int .u64 u,.string s,.slice a4 keys.length c4,.slice a5 l.length c5] 26)
   simp only[World.size_alloc,Nat.add_assoc,Nat.reduceAdd,hN] at hh
   exact hh
  have HG0:Hid (jD w ((w.alloc (.cells #[jI q.p] 70)).alloc (.cells #[.int .i64 k,.int .i64 n,.int .u64 u,.string s,.slice a4 keys.length c4,.slice a5 l.length c5] 26))):=((jD.refl w).alloc _).alloc _
  have HM2:Hid ((N+1,Obj.cells #[.int .i64 k,.int .i64 n,.int .u64 u,.string s,.slice a4 keys.length c4,.slice a5 l.length c5] 26 (0,0))∈([(N+1,Obj.cells #[.int .i64 k,.int .i64 n,.int .u64 u,.string s,.slice a4 keys.length c4,.slice a5 l.length c5] 26 (0,0)),(N,Obj.cells #[jI q.p] 70 (0,0))]:List (Nat × Obj))):=List.mem_cons_self
  have HM1:Hid ((N,Obj.cells #[jI q.p] 70 (0,0))∈([(N+1,Obj.cells #[.int .i64 k,.int .i64 n,.int .u64 u,.string s,.slice a4 keys.length c4,.slice a5 l.length c5] 26 (0,0)),(N,Obj.cells #[jI q.p] 70 (0,0))]:List (Nat × Obj))):=List.mem_cons_of_mem _ List.mem_cons_self
  have cb:=Env.cell HE.out HM1.out 0 _ rfl
  have g0:=Env.cell HE.out HM2.out 0 _ rfl
  have g1:=Env.cell HE.out HM2.out 1 _ rfl
  have g2:=Env.cell HE.out HM2.out 2 _ rfl
  have g3:=Env.cell HE.out HM2.out 3 _ rfl
  have g4:=Env.cell HE.out HM2.out 4 _ rfl
  have g5:=Env.cell HE.out HM2.out 5 _ rfl
  have HNN:=zh hN
  clear h hg hW ih o1 o2 o4 o5 ho5 hrl hrg hb rn ru qP hkl hc5 ht
  have hk9:k=11∨k=12∨k=14∨k=13∨k=15∨k=16∨k=10∨k=17∨(k≠11∧k≠12∧k≠14∧k≠13∧k≠15∧k≠16∧k≠10∧k≠17):=by omega
  obtain rfl|rfl|rfl|rfl|rfl|rfl|rfl|rfl|hkn:=hk9
  ·have HD:Hid (kG jA jC (.mk 11 n u s keys l) x=_):=GC
   have HRG:Hid (∀x∈l.map Tr.fn,-9223372036854775808≤x∧x≤9223372036854775807):=fun x hx=>by
    obtain⟨z,hz,rfl⟩:=List.mem_map.1 hx
    have:=HRL.out z hz
    cases z
    exact this.1.1
   have HLN:Hid ((l.map Tr.fn).length≤1048576):=by show _≤_;rw[List.length_map];have:=HLL.out;omega
   obtain⟨M,hM⟩:∃M,l.map Tr.fn=M:=⟨_,rfl⟩
   rw[hM] at HD HRG HLN
   have HMV:=zh hM
   clear hM
   go_enter func46,ntmps46
   go_wp2_with fail
   generalize ((w.alloc (.cells #[jI q.p] 70)).alloc (.cells #[.int .i64 11,.int .i64 n,.int .u64 u,.string s,.slice a4 keys.length c4,.slice a5 l.length c5] 26))=wb at *
   refine zZ jD 3 [[],[],[1],[0,1,2]] [[(18,1),(19,2)],[(17,0)],[(17,0),(18,1)],[(17,0),(18,1),(19,2)]] [(17,0),(18,1),(19,2)]
    [Is (jI q.p),Is (.agg #[.int .i64 11,.int .i64 n,.int .u64 u,.string s,.slice a4 keys.length c4,.slice a5 l.length c5]),fun v w=>zY (fun x=>.int .i64 x) w v M]
    zk jD.trans jD.refl (jD.refl _).drew zk ⟨jN,jN,fun _ _ _ hg h=>zY.grew h hg,trivial⟩ rfl ?_ ?_
   rotate_left
   ·intro y w2 hG hF
    simp only[yG,Is,and_true,Nat.reduceAdd] at hF
    have h0:=hF.1
    have h1:=hF.2.1
    have h2:=hF.2.2
    clear hF
    simp only[jE,Act.put,zq1,zq2,zq3,zq4,zq5,List.drop_succ_cons,List.drop_zero]
    simp only[h0,h1]
    clear h0 h1
    have HG5:=zh (HG0.out.trans hG)
    have HC:=zh h2
    obtain⟨va,vc,hvv,_⟩:=h2
    rw[hvv] at HC⊢
    clear hG hvv
    go_wp2_with fail
    refine (C6 M _ HC.out HRG.out HLN.out HG.out (HB.out.grew HG5.out)).mono ?_
    rintro r w3 ⟨rfl,ht⟩
    have HT:=zh (ht.after HG5.out)
    clear ht
    go_wp2
    go_end0
    exact⟨rfl,by rw[HD.out];exact HT.out⟩
   refine⟨?_,?_⟩
   ·intro y w2 hG hD K hK
    have dcb:=hG.cell cb
    exact zsr
   refine⟨?_,?_⟩
   ·intro y w2 hG hD K hK
    have dg0:=hG.cell g0
    have dg1:=hG.cell g1
    have dg2:=hG.cell g2
    have dg3:=hG.cell g3
    have dg4:=hG.cell g4
    have dg5:=hG.cell g5
    exact zsr
   refine⟨?_,?_⟩
   ·intro y w2 hG hD K hK
    simp only[jY,zq4,zq5,Is,and_true] at hD
    simp only[jE,Act.put,zq1,zq2,zq3,zq4,zq5,Is] at hK⊢
    simp only[hD] at hK⊢
    clear hD
    refine jL ?_
    go_simp
    refine (oL 11 n u s a4 keys.length c4 a5 c5 l vs w2 (kY.out.grew (HGW.out.trans (HG0.out.trans hG))) (HK.out.grew (HGW.out.trans (HG0.out.trans hG))) HLL.out).mono ?_
    rintro r w3 ⟨v',rfl,ho,hg3⟩
    exact hK _ _ _ rfl hg3 (by rw[← HMV.out];exact J3 ho)
   trivial
  ·have HD:Hid (kG jA jC (.mk 12 n u s keys l) x=_):=GD
   have HRG:Hid (∀x∈l.map Tr.fu,0≤x∧x≤18446744073709551615):=fun x hx=>by
    obtain⟨z,hz,rfl⟩:=List.mem_map.1 hx
    have:=HRL.out z hz
    cases z
    exact this.1.2
   have HLN:Hid ((l.map Tr.fu).length≤1048576):=by show _≤_;rw[List.length_map];have:=HLL.out;omega
   obtain⟨M,hM⟩:∃M,l.map Tr.fu=M:=⟨_,rfl⟩
   rw[hM] at HD HRG HLN
   have HMV:=zh hM
   clear hM
   go_enter func46,ntmps46
   go_wp2_with fail
   generalize ((w.alloc (.cells #[jI q.p] 70)).alloc (.cells #[.int .i64 12,.int .i64 n,.int .u64 u,.string s,.slice a4 keys.length c4,.slice a5 l.length c5] 26))=wb at *
   refine zZ jD 3 [[],[],[1],[0,1,2]] [[(24,1),(25,2)],[(23,0)],[(23,0),(24,1)],[(23,0),(24,1),(25,2)]] [(23,0),(24,1),(25,2)]
    [Is (jI q.p),Is (.agg #[.int .i64 12,.int .i64 n,.int .u64 u,.string s,.slice a4 keys.length c4,.slice a5 l.length c5]),fun v w=>zY (fun x=>.int .u64 x) w v M]
    zk jD.trans jD.refl (jD.refl _).drew zk ⟨jN,jN,fun _ _ _ hg h=>zY.grew h hg,trivial⟩ rfl ?_ ?_
   rotate_left
   ·intro y w2 hG hF
    simp only[yG,Is,and_true,Nat.reduceAdd] at hF
    have h0:=hF.1
    have h1:=hF.2.1
    have h2:=hF.2.2
    clear hF
    simp only[jE,Act.put,zq1,zq2,zq3,zq4,zq5,List.drop_succ_cons,List.drop_zero]
    simp only[h0,h1]
    clear h0 h1
    have HG5:=zh (HG0.out.trans hG)
    have HC:=zh h2
    obtain⟨va,vc,hvv,_⟩:=h2
    rw[hvv] at HC⊢
    clear hG hvv
    go_wp2_with fail
    refine (xX M _ HC.out HRG.out HLN.out HG.out (HB.out.grew HG5.out)).mono ?_
    rintro r w3 ⟨rfl,ht⟩
    have HT:=zh (ht.after HG5.out)
    clear ht
    go_wp2
    go_end0
    exact⟨rfl,by rw[HD.out];exact HT.out⟩
   refine⟨?_,?_⟩
   ·intro y w2 hG hD K hK
    have dcb:=hG.cell cb
    exact zsr
   refine⟨?_,?_⟩
   ·intro y w2 hG hD K hK
    have dg0:=hG.cell g0
    have dg1:=hG.cell g1
    have dg2:=hG.cell g2
    have dg3:=hG.cell g3
    have dg4:=hG.cell g4
    have dg5:=hG.cell g5
    exact zsr
   refine⟨?_,?_⟩
   ·intro y w2 hG hD K hK
    simp only[jY,zq4,zq5,Is,and_true] at hD
    simp only[jE,Act.put,zq1,zq2,zq3,zq4,zq5,Is] at hK⊢
    simp only[hD] at hK⊢
    clear hD
    refine jL ?_
    go_simp
    refine (oM 12 n u s a4 keys.length c4 a5 c5 l vs w2 (kY.out.grew (HGW.out.trans (HG0.out.trans hG))) (HK.out.grew (HGW.out.trans (HG0.out.trans hG))) HLL.out).mono ?_
    rintro r w3 ⟨v',rfl,ho,hg3⟩
    exact hK _ _ _ rfl hg3 (by rw[← HMV.out];exact J3 ho)
   trivial
  ·have HD:Hid (kG jA jC (.mk 14 n u s keys l) x=_):=GE
   have HRG:Hid (∀x∈l.map (fun t=>decide (t.fn=1)),True):=fun x hx=>by
    trivial
   have HLN:Hid ((l.map (fun t=>decide (t.fn=1))).length≤1048576):=by show _≤_;rw[List.length_map];have:=HLL.out;omega
   obtain⟨M,hM⟩:∃M,l.map (fun t=>decide (t.fn=1))=M:=⟨_,rfl⟩
   rw[hM] at HD HRG HLN
   have HMV:=zh hM
   clear hM
   go_enter func46,ntmps46
   go_wp2_with fail
   generalize ((w.alloc (.cells #[jI q.p] 70)).alloc (.cells #[.int .i64 14,.int .i64 n,.int .u64 u,.string s,.slice a4 keys.length c4,.slice a5 l.length c5] 26))=wb at *
   refine zZ jD 3 [[],[],[1],[0,1,2]] [[(30,1),(31,2)],[(29,0)],[(29,0),(30,1)],[(29,0),(30,1),(31,2)]] [(29,0),(30,1),(31,2)]
    [Is (jI q.p),Is (.agg #[.int .i64 14,.int .i64 n,.int .u64 u,.string s,.slice a4 keys.length c4,.slice a5 l.length c5]),fun v w=>zY (fun x=>.bool x) w v M]
    zk jD.trans jD.refl (jD.refl _).drew zk ⟨jN,jN,fun _ _ _ hg h=>zY.grew h hg,trivial⟩ rfl ?_ ?_
   rotate_left
   ·intro y w2 hG hF
    simp only[yG,Is,and_true,Nat.reduceAdd] at hF
    have h0:=hF.1
    have h1:=hF.2.1
    have h2:=hF.2.2
    clear hF
    simp only[jE,Act.put,zq1,zq2,zq3,zq4,zq5,List.drop_succ_cons,List.drop_zero]
    simp only[h0,h1]
    clear h0 h1
    have HG5:=zh (HG0.out.trans hG)
    have HC:=zh h2
    obtain⟨va,vc,hvv,_⟩:=h2
    rw[hvv] at HC⊢
    clear hG hvv
    go_wp2_with fail
    refine (xY M _ HC.out HRG.out HLN.out HG.out (HB.out.grew HG5.out)).mono ?_
    rintro r w3 ⟨rfl,ht⟩
    have HT:=zh (ht.after HG5.out)
    clear ht
    go_wp2
    go_end0
    exact⟨rfl,by rw[HD.out];exact HT.out⟩
   refine⟨?_,?_⟩
   ·intro y w2 hG hD K hK
    have dcb:=hG.cell cb
    exact zsr
   refine⟨?_,?_⟩
   ·intro y w2 hG hD K hK
    have dg0:=hG.cell g0
    have dg1:=hG.cell g1
    have dg2:=hG.cell g2
    have dg3:=hG.cell g3
    have dg4:=hG.cell g4
    have dg5:=hG.cell g5
    exact zsr
   refine⟨?_,?_⟩
   ·intro y w2 hG hD K hK
    simp only[jY,zq4,zq5,Is,and_true] at hD
    simp only[jE,Act.put,zq1,zq2,zq3,zq4,zq5,Is] at hK⊢
    simp only[hD] at hK⊢
    clear hD
    refine jL ?_
    go_simp
    refine (DV 14 n u s a4 keys.length c4 a5 c5 l vs w2 (kY.out.grew (HGW.out.trans (HG0.out.trans hG))) (HK.out.grew (HGW.out.trans (HG0.out.trans hG))) HLL.out).mono ?_
    rintro r w3 ⟨v',rfl,ho,hg3⟩
    exact hK _ _ _ rfl hg3 (by rw[← HMV.out];exact J3 ho)
   trivial
  ·have HD:Hid (kG jA jC (.mk 13 n u s keys l) x=_):=GF
   have HRG:Hid (∀x∈l.map Tr.fs,x.size≤1048576):=fun x hx=>by
    obtain⟨z,hz,rfl⟩:=List.mem_map.1 hx
    have:=HOK.out z hz
    cases z
    exact this.1.1
   have HLN:Hid ((l.map Tr.fs).length≤1048576):=by show _≤_;rw[List.length_map];have:=HLL.out;omega
   obtain⟨M,hM⟩:∃M,l.map Tr.fs=M:=⟨_,rfl⟩
   rw[hM] at HD HRG HLN
   have HMV:=zh hM
   clear hM
   go_enter func46,ntmps46
   go_wp2_with fail
   generalize ((w.alloc (.cells #[jI q.p] 70)).alloc (.cells #[.int .i64 13,.int .i64 n,.int .u64 u,.string s,.slice a4 keys.length c4,.slice a5 l.length c5] 26))=wb at *
   refine zZ jD 3 [[],[],[1],[0,1,2]] [[(36,1),(37,2)],[(35,0)],[(35,0),(36,1)],[(35,0),(36,1),(37,2)]] [(35,0),(36,1),(37,2)]
    [Is (jI q.p),Is (.agg #[.int .i64 13,.int .i64 n,.int .u64 u,.string s,.slice a4 keys.length c4,.slice a5 l.length c5]),fun v w=>∃Wr,jD wb Wr∧jD Wr w∧w.ownsRow Wr.heap.size 9 1 v M.length (M.map fun x=>.string x)]
    zk jD.trans jD.refl (jD.refl _).drew zk ⟨jN,jN,fun _ _ _ hg ⟨Wr,h1,h2,h3⟩=>⟨Wr,h1,h2.trans hg,qE h3 hg⟩,trivial⟩ rfl ?_ ?_
   rotate_left
   ·intro y w2 hG hF
    simp only[yG,Is,and_true,Nat.reduceAdd] at hF
    have h0:=hF.1
    have h1:=hF.2.1
    have h2:=hF.2.2
    clear hF
    simp only[jE,Act.put,zq1,zq2,zq3,zq4,zq5,List.drop_succ_cons,List.drop_zero]
    simp only[h0,h1]
    clear h0 h1
    have HG5:=zh (HG0.out.trans hG)
    obtain⟨Wr,hgr,hgr2,hro⟩:=h2
    have HGR:=zh (HG0.out.trans hgr)
    have HGR2:=zh hgr2
    have HRO:=zh hro
    obtain⟨va,vc,hvv,hz1,hz2,hz3⟩:=jR hro
    rw[hvv] at HRO⊢
    clear hG hvv hgr hgr2 hro hz1 hz2 hz3
    obtain⟨ml,hml⟩:∃ml,M.length=ml:=⟨_,rfl⟩
    rw[hml]
    have HML:=zh hml
    clear hml
    go_wp2_with fail
    refine (by have h:=C8 va vc M (J3 HRO.out) (uZ (HB.out.grew HGR.out) HRO.out) HRG.out HLN.out HG.out (HB.out.grew HG5.out);rw[HML.out] at h;exact h:Calls prog 82 #[jI q.p,.slice va ml vc] w2 fun r w'=>r=.returned (.tuple #[])∧kN B q jA jC κ (x.keyVec jA (onF jC 1) M) w2 w').mono ?_
    rintro r w3 ⟨rfl,ht⟩
    have HT:=zh (ht.after HG5.out)
    clear ht
    go_wp2
    go_end0
    exact⟨rfl,by rw[HD.out];exact HT.out⟩
   refine⟨?_,?_⟩
   ·intro y w2 hG hD K hK
    have dcb:=hG.cell cb
    exact zsr
   refine⟨?_,?_⟩
   ·intro y w2 hG hD K hK
    have dg0:=hG.cell g0
    have dg1:=hG.cell g1
    have dg2:=hG.cell g2
    have dg3:=hG.cell g3
    have dg4:=hG.cell g4
    have dg5:=hG.cell g5
    exact zsr
   refine⟨?_,?_⟩
   ·intro y w2 hG hD K hK
    simp only[jY,zq4,zq5,Is,and_true] at hD
    simp only[jE,Act.put,zq1,zq2,zq3,zq4,zq5,Is] at hK⊢
    simp only[hD] at hK⊢
    clear hD
    refine jL ?_
    go_simp
    refine (DW 13 n u s a4 keys.length c4 a5 c5 l vs w2 (kY.out.grew (HGW.out.trans (HG0.out.trans hG))) (HK.out.grew (HGW.out.trans (HG0.out.trans hG))) HLL.out).mono ?_
    rintro r w3 ⟨v',rfl,ho,hg3⟩
    exact hK _ _ _ rfl hg3 ⟨w2,hG,hg3,by rw[← HMV.out];exact ho⟩
   trivial
  ·have HD:Hid (kG jA jC (.mk 15 n u s keys l) x=_):=GG
   have HRG:Hid (∀x∈l.map Tr.fn,-9223372036854775808≤x∧x≤9223372036854775807):=fun x hx=>by
    obtain⟨z,hz,rfl⟩:=List.mem_map.1 hx
    have:=HRL.out z hz
    cases z
    exact this.1.1
   have HLN:Hid ((l.map Tr.fn).length≤1048576):=by show _≤_;rw[List.length_map];have:=HLL.out;omega
   obtain⟨M,hM⟩:∃M,l.map Tr.fn=M:=⟨_,rfl⟩
   rw[hM] at HD HRG HLN
   have HMV:=zh hM
   clear hM
   go_enter func46,ntmps46
   go_wp2_with fail
   generalize ((w.alloc (.cells #[jI q.p] 70)).alloc (.cells #[.int .i64 15,.int .i64 n,.int .u64 u,.string s,.slice a4 keys.length c4,.slice a5 l.length c5] 26))=wb at *
   refine zZ jD 3 [[],[],[1],[0,1,2]] [[(42,1),(43,2)],[(41,0)],[(41,0),(42,1)],[(41,0),(42,1),(43,2)]] [(41,0),(42,1),(43,2)]
    [Is (jI q.p),Is (.agg #[.int .i64 15,.int .i64 n,.int .u64 u,.string s,.slice a4 keys.length c4,.slice a5 l.length c5]),fun v w=>zY (fun x=>.int .i64 x) w v M]
    zk jD.trans jD.refl (jD.refl _).drew zk ⟨jN,jN,fun _ _ _ hg h=>zY.grew h hg,trivial⟩ rfl ?_ ?_
   rotate_left
   ·intro y w2 hG hF
    simp only[yG,Is,and_true,Nat.reduceAdd] at hF
    have h0:=hF.1
    have h1:=hF.2.1
    have h2:=hF.2.2
    clear hF
    simp only[jE,Act.put,zq1,zq2,zq3,zq4,zq5,List.drop_succ_cons,List.drop_zero]
    simp only[h0,h1]
    clear h0 h1
    have HG5:=zh (HG0.out.trans hG)
    have HC:=zh h2
    obtain⟨va,vc,hvv,_⟩:=h2
    rw[hvv] at HC⊢
    clear hG hvv
    go_wp2_with fail
    refine (p5 M _ HC.out HRG.out HLN.out HG.out (HB.out.grew HG5.out)).mono ?_
    rintro r w3 ⟨rfl,ht⟩
    have HT:=zh (ht.after HG5.out)
    clear ht
    go_wp2
    go_end0
    exact⟨rfl,by rw[HD.out];exact HT.out⟩
   refine⟨?_,?_⟩
   ·intro y w2 hG hD K hK
    have dcb:=hG.cell cb
    exact zsr
   refine⟨?_,?_⟩
   ·intro y w2 hG hD K hK
    have dg0:=hG.cell g0
    have dg1:=hG.cell g1
    have dg2:=hG.cell g2
    have dg3:=hG.cell g3
    have dg4:=hG.cell g4
    have dg5:=hG.cell g5
    exact zsr
   refine⟨?_,?_⟩
   ·intro y w2 hG hD K hK
    simp only[jY,zq4,zq5,Is,and_true] at hD
    simp only[jE,Act.put,zq1,zq2,zq3,zq4,zq5,Is] at hK⊢
    simp only[hD] at hK⊢
    clear hD
    refine jL ?_
    go_simp
    refine (oL 15 n u s a4 keys.length c4 a5 c5 l vs w2 (kY.out.grew (HGW.out.trans (HG0.out.trans hG))) (HK.out.grew (HGW.out.trans (HG0.out.trans hG))) HLL.out).mono ?_
    rintro r w3 ⟨v',rfl,ho,hg3⟩
    exact hK _ _ _ rfl hg3 (by rw[← HMV.out];exact J3 ho)
   trivial
  ·have HD:Hid (kG jA jC (.mk 16 n u s keys l) x=_):=GH
   have HRG:Hid (∀x∈l.map Tr.fu,0≤x∧x≤18446744073709551615):=fun x hx=>by
    obtain⟨z,hz,rfl⟩:=List.mem_map.1 hx
    have:=HRL.out z hz
    cases z
    exact this.1.2
   have HLN:Hid ((l.map Tr.fu).length≤1048576):=by show _≤_;rw[List.length_map];have:=HLL.out;omega
   obtain⟨M,hM⟩:∃M,l.map Tr.fu=M:=⟨_,rfl⟩
   rw[hM] at HD HRG HLN
   have HMV:=zh hM
   clear hM
   go_enter func46,ntmps46
   go_wp2_with fail
   generalize ((w.alloc (.cells #[jI q.p] 70)).alloc (.cells #[.int .i64 16,.int .i64 n,.int .u64 u,.string s,.slice a4 keys.length c4,.slice a5 l.length c5] 26))=wb at *
   refine zZ jD 3 [[],[],[1],[0,1,2]] [[(48,1),(49,2)],[(47,0)],[(47,0),(48,1)],[(47,0),(48,1),(49,2)]] [(47,0),(48,1),(49,2)]
    [Is (jI q.p),Is (.agg #[.int .i64 16,.int .i64 n,.int .u64 u,.string s,.slice a4 keys.length c4,.slice a5 l.length c5]),fun v w=>zY (fun x=>.int .u64 x) w v M]
    zk jD.trans jD.refl (jD.refl _).drew zk ⟨jN,jN,fun _ _ _ hg h=>zY.grew h hg,trivial⟩ rfl ?_ ?_
   rotate_left
   ·intro y w2 hG hF
    simp only[yG,Is,and_true,Nat.reduceAdd] at hF
    have h0:=hF.1
    have h1:=hF.2.1
    have h2:=hF.2.2
    clear hF
    simp only[jE,Act.put,zq1,zq2,zq3,zq4,zq5,List.drop_succ_cons,List.drop_zero]
    simp only[h0,h1]
    clear h0 h1
    have HG5:=zh (HG0.out.trans hG)
    have HC:=zh h2
    obtain⟨va,vc,hvv,_⟩:=h2
    rw[hvv] at HC⊢
    clear hG hvv
    go_wp2_with fail
    refine (mA M _ HC.out HRG.out HLN.out HG.out (HB.out.grew HG5.out)).mono ?_
    rintro r w3 ⟨rfl,ht⟩
    have HT:=zh (ht.after HG5.out)
    clear ht
    go_wp2
    go_end0
    exact⟨rfl,by rw[HD.out];exact HT.out⟩
   refine⟨?_,?_⟩
   ·intro y w2 hG hD K hK
    have dcb:=hG.cell cb
    exact zsr
   refine⟨?_,?_⟩
   ·intro y w2 hG hD K hK
    have dg0:=hG.cell g0
    have dg1:=hG.cell g1
    have dg2:=hG.cell g2
    have dg3:=hG.cell g3
    have dg4:=hG.cell g4
    have dg5:=hG.cell g5
    exact zsr
   refine⟨?_,?_⟩
   ·intro y w2 hG hD K hK
    simp only[jY,zq4,zq5,Is,and_true] at hD
    simp only[jE,Act.put,zq1,zq2,zq3,zq4,zq5,Is] at hK⊢
    simp only[hD] at hK⊢
    clear hD
    refine jL ?_
    go_simp
    refine (oM 16 n u s a4 keys.length c4 a5 c5 l vs w2 (kY.out.grew (HGW.out.trans (HG0.out.trans hG))) (HK.out.grew (HGW.out.trans (HG0.out.trans hG))) HLL.out).mono ?_
    rintro r w3 ⟨v',rfl,ho,hg3⟩
    exact hK _ _ _ rfl hg3 (by rw[← HMV.out];exact J3 ho)
   trivial
  ·have HD:Hid (kG jA jC (.mk 10 n u s keys l) x=_):=GA
   go_enter func46,ntmps46
   go_wp2_with fail
   generalize ((w.alloc (.cells #[jI q.p] 70)).alloc (.cells #[.int .i64 10,.int .i64 n,.int .u64 u,.string s,.slice a4 keys.length c4,.slice a5 l.length c5] 26))=wb at *
   refine (F8 (HB.out.grew HG0.out)).mono ?_
   rintro r w4 ⟨rfl,rfl⟩
   have HSTK:Hid (x.stk.length≤65536):=HB.out.ok.stk
   obtain⟨sl,hsl⟩:∃sl,x.stk.length=sl:=⟨_,rfl⟩
   rw[hsl] at HSTK HD⊢
   clear hsl
   go_wp2_with fail
   go_loopw [58] (fun i wr=>∃j:Nat,j≤l.length∧i=.int .i64 j∧Hid (Env B q jA jC w κ [(N+1,Obj.cells #[.int .i64 10,.int .i64 n,.int .u64 u,.string s,.slice a4 keys.length c4,.slice a5 l.length c5] 26 (0,0)),(N,Obj.cells #[jI q.p] 70 (0,0))] (yK jA jC (l.take j) x) wr)) (fun i _=>l.length - (intOf i).toNat)
   case atStart=>exact⟨0,Nat.zero_le _,rfl,HE.out⟩
   case round=>
    obtain⟨j,hj,rfl,HW⟩:=hrel
    clear cb g0 g1 g2 g3 g4 g5
    by_cases hlt:j < l.length
    ·obtain⟨z,hz⟩:∃z,l[j]? = some z:=⟨_,List.getElem?_eq_getElem hlt⟩
     obtain⟨xv,hxv,hnx⟩:=HK.out.get hz
     have hzm:z∈l:=List.mem_of_getElem? hz
     obtain⟨b,off,hab,hc6⟩:∃b off,a5=some ⟨b,off,none⟩∧qI W b (off+j*6) xv:=by
      obtain⟨a,c,e,_,_,_,h⟩:=kY.out
      injection e with e1 e2 e3
      subst e1
      exact h j xv hxv
     subst hab
     have HGWr:=zh (Env.old HB.out HGW.out HWB.out HW.out)
     obtain⟨xk,xn,xu,xs,xa4,xn4,xc4,xa5,xn5,xc5,rfl⟩:=hnx.node6
     obtain⟨e0,e1,e2,e3,e4,e5⟩:=(hc6.grew HGWr.out).get
     have HSN:Hid (yK jA jC (l.take (j+1)) x=kG jA jC z (yK jA jC (l.take j) x)):=by
      show _=_
      rw[← eP,List.take_add_one,hz]
      rfl
     have HGD:Hid ((yK jA jC (l.take j) x).Good):=YT _ HG.out
     have HZS:=zh (HSZ.out z hzm)
     have HZO:=zh (HOK.out z hzm)
     have HNX:=zh hnx
     have HGR:=zh ((jD.refl wr).alloc (.cells #[.int .i64 xk,.int .i64 xn,.int .u64 xu,.string xs,.slice xa4 xn4 xc4,.slice xa5 xn5 xc5] 26))
     have cb:=Env.cell (HW.out.grew HGR.out) HM1.out 0 _ rfl
     generalize yK jA jC (l.take j) x=Y at *
     clear hc6 hz hxv hnx hzm
     have hji:(j:Int) < l.length:=by omega
     go_wp2_with fail
     generalize (wr.alloc (.cells #[.int .i64 xk,.int .i64 xn,.int .u64 xu,.string xs,.slice xa4 xn4 xc4,.slice xa5 xn5 xc5] 26))=ws at *
     refine ((HW.out.grew HGR.out).call fun κ1 hb hz=>HIH.out z HZS.out _ κ1 Y ws HNX.out HZO.out (HGWr.out.trans HGR.out) HGD.out hb).mono ?_
     rintro r w5 ⟨rfl,he⟩
     have HE5:=zh he
     clear he cb e0 e1 e2 e3 e4 e5
     go_wp2_with fail
     go_roundw
     case rel=>exact⟨j+1,by omega,by go_num,by rw[HSN.out];exact HE5.out⟩
     case measure=>simp[intOf];omega
    ·have ej:j=l.length:=by omega
     subst ej
     have hw:=HW.out
     rw[List.take_length] at hw
     have HWE:=zh hw
     have HGD:Hid ((yK jA jC l x).Good):=YT _ HG.out
     have cb:=Env.cell hw HM1.out 0 _ rfl
     generalize yK jA jC l x=Y at *
     clear hw HW
     have hji:¬((l.length:Nat):Int) < l.length:=by omega
     go_wp2_with fail
     refine (HWE.out.call fun κ1 hb hz=>uC (sl:Int) HGD.out hb).mono ?_
     rintro r w5 ⟨rfl,he⟩
     have HT:=zh he
     clear he
     go_wp2
     go_end0
     exact⟨rfl,by rw[HD.out];exact HT.out.turn⟩
  ·have HD:Hid (kG jA jC (.mk 17 n u s keys l) x=_):=GB
   have HKL:Hid (keys.length=l.length):=HZ.out.2.2 rfl
   go_enter func46,ntmps46
   go_wp2_with fail
   generalize ((w.alloc (.cells #[jI q.p] 70)).alloc (.cells #[.int .i64 17,.int .i64 n,.int .u64 u,.string s,.slice a4 keys.length c4,.slice a5 l.length c5] 26))=wb at *
   refine (F9 (HB.out.grew HG0.out)).mono ?_
   rintro r w4 ⟨rfl,rfl⟩
   have HSTK:Hid (x.stk.length≤65536):=HB.out.ok.stk
   obtain⟨sl,hsl⟩:∃sl,x.stk.length=sl:=⟨_,rfl⟩
   rw[hsl] at HSTK HD⊢
   clear hsl
   go_wp2_with fail
   go_loopw [77] (fun i wr=>∃j:Nat,j≤l.length∧i=.int .i64 j∧Hid (Env B q jA jC w κ [(N+1,Obj.cells #[.int .i64 17,.int .i64 n,.int .u64 u,.string s,.slice a4 keys.length c4,.slice a5 l.length c5] 26 (0,0)),(N,Obj.cells #[jI q.p] 70 (0,0))] (yN jA jC (l.take j) (keys.take j) x) wr)) (fun i _=>l.length - (intOf i).toNat)
   case atStart=>exact⟨0,Nat.zero_le _,rfl,HE.out⟩
   case round=>
    obtain⟨j,hj,rfl,HW⟩:=hrel
    clear cb g0 g1 g2 g3 g4 g5
    by_cases hlt:j < l.length
    ·obtain⟨z,hz⟩:∃z,l[j]? = some z:=⟨_,List.getElem?_eq_getElem hlt⟩
     obtain⟨xv,hxv,hnx⟩:=HK.out.get hz
     have hzm:z∈l:=List.mem_of_getElem? hz
     obtain⟨b,off,hab,hc6⟩:∃b off,a5=some ⟨b,off,none⟩∧qI W b (off+j*6) xv:=by
      obtain⟨a,c,e,_,_,_,h⟩:=kY.out
      injection e with e1 e2 e3
      subst e1
      exact h j xv hxv
     subst hab
     obtain⟨key,hkey⟩:∃key,keys[j]? = some key:=⟨_,List.getElem?_eq_getElem (by have:=HKL.out;omega)⟩
     obtain⟨kb,ko,hak,hck⟩:∃kb ko,a4=some ⟨kb,ko,none⟩∧W.cell? ⟨kb,ko+j,none⟩=some (.string key):=by
      obtain⟨a,c,e,_,_,_,h⟩:=HKS.out
      injection e with e1 e2 e3
      subst e1
      exact (h j key hkey).2
     subst hak
     have HGWr:=zh (Env.old HB.out HGW.out HWB.out HW.out)
     obtain⟨xk,xn,xu,xs,xa4,xn4,xc4,xa5,xn5,xc5,rfl⟩:=hnx.node6
     have HSN:Hid (yN jA jC (l.take (j+1)) (keys.take (j+1)) x=kG jA jC z ((yN jA jC (l.take j) (keys.take j) x).key jA (onF jC 1) key)):=by
      show _=_
      rw[← eQ _ _ _ _ _ (by rw[List.length_take,List.length_take,HKL.out]),List.take_add_one,List.take_add_one,hz,hkey]
      rfl
     have HGD:Hid ((yN jA jC (l.take j) (keys.take j) x).Good):=YU _ _ HG.out
     have HZS:=zh (HSZ.out z hzm)
     have HZO:=zh (HOK.out z hzm)
     have HNX:=zh hnx
     have HC6:=zh hc6
     have HCK:=zh hck
     have HKY:=zh (HZ.out.2.1 key (List.mem_of_getElem? hkey))
     generalize yN jA jC (l.take j) (keys.take j) x=Y at *
     clear hc6 hz hxv hnx hzm hck hkey
     have hji:(j:Int) < l.length:=by omega
     have HJ:=zh hlt
     go_wp2_with fail
     refine (HW.out.call' fun κ1 hb he=>DX N (N+1) 17 n u s kb ko keys c4 b off l c5 j key z xk xn xu xs xa4 xn4 xc4 xa5 xn5 xc5 HWB.out HGWr.out (by have:=HKL.out;have:=HJ.out;omega) HJ.out (by have:=HKL.out;have:=HLL.out;omega) HLL.out HCK.out HKY.out HC6.out (fun κ2 y w1 hw1 hy hb1=>HIH.out z HZS.out _ κ2 y w1 HNX.out HZO.out hw1 hy hb1) HGD.out hb he).mono ?_
     rintro r w5 ⟨rfl,he⟩
     have HE5:=zh he
     clear he
     go_wp2_with fail
     go_roundw
     case rel=>exact⟨j+1,by omega,by go_num,by rw[HSN.out];exact HE5.out⟩
     case measure=>simp[intOf];omega
    ·have ej:j=l.length:=by omega
     subst ej
     have hw:=HW.out
     have ekk:keys.take l.length=keys:=by rw[← HKL.out,List.take_length]
     rw[List.take_length,ekk] at hw
     have HWE:=zh hw
     have HGD:Hid ((yN jA jC l keys x).Good):=YU _ _ HG.out
     have cb:=Env.cell hw HM1.out 0 _ rfl
     generalize yN jA jC l keys x=Y at *
     clear hw HW
     have hji:¬((l.length:Nat):Int) < l.length:=by omega
     go_wp2_with fail
     refine (HWE.out.call fun κ1 hb hz=>uX (sl:Int) HGD.out hb).mono ?_
     rintro r w5 ⟨rfl,he⟩
     have HT:=zh he
     clear he
     go_wp2
     go_end0
     exact⟨rfl,by rw[HD.out];exact HT.out.turn⟩
  ·have HD:Hid (kG jA jC (.mk k n u s keys l) x=_):=AP hkn
   obtain⟨m1,m2,m3,m4,m5,m6,m7,m8⟩:=hkn
   have p11:(k == 11)=false:=by simpa using m1
   have p12:(k == 12)=false:=by simpa using m2
   have p14:(k == 14)=false:=by simpa using m3
   have p13:(k == 13)=false:=by simpa using m4
   have p15:(k == 15)=false:=by simpa using m5
   have p16:(k == 16)=false:=by simpa using m6
   have p10:(k == 10)=false:=by simpa using m7
   have p17:(k == 17)=false:=by simpa using m8
   clear m1 m2 m3 m4 m5 m6 m7 m8
   go_enter func46,ntmps46
   go_wp2_with fail
   generalize ((w.alloc (.cells #[jI q.p] 70)).alloc (.cells #[.int .i64 k,.int .i64 n,.int .u64 u,.string s,.slice a4 keys.length c4,.slice a5 l.length c5] 26))=wb at *
   refine (F7 k n u s a4 keys.length c4 a5 l.length c5 HRN.out.1 HRN.out.2 HZ.out.1 HG.out (HB.out.grew HG0.out)).mono ?_
   rintro r w3 ⟨rfl,ht⟩
   have HT:=zh (ht.after HG0.out)
   clear ht
   go_wp2
   go_end0
   exact⟨rfl,by rw[HD.out];exact HT.out⟩
def qO (jA jC:Int) (t:Tr):List UInt8 × Int:=if KG t≠0 then ([],KG t) else ((kG (JA jA) jC (zO t) BS.new).finish (JA jA)).1
theorem wE {w w':World} {t:Tr} {r:Ending} (h:aD w t r w'):jD w w'∧∃(e k n u:Int) (s:ByteArray) (a4:Option Addr) (n4 c4:Nat) (a5:Option Addr) (n5 c5:Nat),r=.returned (.tuple #[.agg #[.int .i64 k,.int .i64 n,.int .u64 u,.string s,.slice a4 n4 c4,.slice a5 n5 c5],.int .i64 e])∧e=KG t∧(e=0→k7 w' (zO t) (.agg #[.int .i64 k,.int .i64 n,.int .u64 u,.string s,.slice a4 n4 c4,.slice a5 n5 c5])):=by
 obtain⟨hg,⟨h0,rfl⟩|⟨h0,v,S,rfl,ho,hf⟩⟩:=h
 ·exact⟨hg,KG t,0,0,0,⟨#[]⟩,none,0,0,none,0,0,rfl,rfl,fun h=>absurd h h0⟩
 ·obtain⟨k,n,u,s,a4,n4,c4,a5,n5,c5,rfl⟩:=ho.node6
  exact⟨hg,0,k,n,u,s,a4,n4,c4,a5,n5,c5,rfl,h0.symm,fun _=>ho.node⟩
theorem uU.grew_old {B:Nat} {q:zK} {jA jC:Int} {κ:Nat→Nat} {x y:BS} {v:Value} {d:List UInt8} {W w w':World} (h0:Bd B q jA jC κ x w) (hW:jD W w) (hB:W.heap.size≤B) (h:uU B q jA jC w κ y v d w'):jD W w':=by
 obtain⟨κ1,k1,k2,_⟩:=h
 exact Moved.fresh hW k2.1 (fun g hg=>Nat.le_trans hB (h0.lt g hg).1)
theorem bT (jC jA:Int) (t:Tr) (v:Value) (w:World) (hn:k7 w t v) (hsz:t.size≤4096) (hok:KG t=0→okE (zO t)):Calls prog 18 #[v,.int .i64 jC,.int .i64 jA] w fun r w'=>∃v',r=.returned (.tuple #[v',.int .i64 (qO jA jC t).2])∧w'.ownsRow w.heap.size 5 1 v' (qO jA jC t).1.length (Lib.byteCells (qO jA jC t).1)∧jD w w':=by
 have HN:=zh hn
 have HOK:=zh hok
 obtain⟨k,n,u,s,a4,n4,c4,a5,n5,c5,rfl⟩:=hn.node6
 have HGA:=zh ((jD.refl w).alloc (.cells #[.int .i64 k,.int .i64 n,.int .u64 u,.string s,.slice a4 n4 c4,.slice a5 n5 c5] 26))
 have jJ:=heap_alloc_new w (.cells #[.int .i64 k,.int .i64 n,.int .u64 u,.string s,.slice a4 n4 c4,.slice a5 n5 c5] 26)
 have g0:=jB jJ 0 _ rfl
 have g1:=jB jJ 1 _ rfl
 have g2:=jB jJ 2 _ rfl
 have g3:=jB jJ 3 _ rfl
 have g4:=jB jJ 4 _ rfl
 have g5:=jB jJ 5 _ rfl
 clear hn hok jJ
 obtain⟨R,hR⟩:∃R,qO jA jC t=R:=⟨_,rfl⟩
 rw[hR]
 have HR:=zh hR
 clear hR
 obtain⟨D,E⟩:=R
 dsimp only
 go_enter func18,ntmps18
 go_wp2_with fail
 generalize (w.alloc (.cells #[.int .i64 k,.int .i64 n,.int .u64 u,.string s,.slice a4 n4 c4,.slice a5 n5 c5] 26))=w1 at *
 refine (xE t _ w1 (HN.out.grew HGA.out) (by omega)).mono ?_
 intro r w2 h
 obtain⟨hg2,e,rk,rn,ru,rs,ra4,rn4,rc4,ra5,rn5,rc5,rfl,he,hnode⟩:=wE h
 have HG2:=zh (HGA.out.trans hg2)
 have HNO:=zh hnode
 have HEE:=zh he
 clear h hg2 he hnode g0 g1 g2 g3 g4 g5
 by_cases h0:e=0
 ·subst h0
  have HN3:Hid (k7 w2 (zO t) (.agg #[.int .i64 rk,.int .i64 rn,.int .u64 ru,.string rs,.slice ra4 rn4 rc4,.slice ra5 rn5 rc5])):=HNO.out rfl
  have HOK3:Hid (okE (zO t)):=HOK.out HEE.out.symm
  have HRV:Hid (((kG (JA jA) jC (zO t) BS.new).finish (JA jA)).1=(D,E)):=by
   show _=_
   rw[← HR.out]
   unfold qO
   rw[if_neg (by rw[← HEE.out];decide)]
  have HG3:=zh ((jD.refl w2).alloc (.cells #[.int .i64 rk,.int .i64 rn,.int .u64 ru,.string rs,.slice ra4 rn4 rc4,.slice ra5 rn5 rc5] 26))
  have jJ:=heap_alloc_new w2 (.cells #[.int .i64 rk,.int .i64 rn,.int .u64 ru,.string rs,.slice ra4 rn4 rc4,.slice ra5 rn5 rc5] 26)
  have g0:=jB jJ 0 _ rfl
  have g1:=jB jJ 1 _ rfl
  have g2:=jB jJ 2 _ rfl
  have g3:=jB jJ 3 _ rfl
  have g4:=jB jJ 4 _ rfl
  have g5:=jB jJ 5 _ rfl
  have K7:=zh jJ
  clear jJ
  go_wp2_with fail
  generalize (w2.alloc (.cells #[.int .i64 rk,.int .i64 rn,.int .u64 ru,.string rs,.slice ra4 rn4 rc4,.slice ra5 rn5 rc5] 26))=w3 at *
  refine (F4 jC jA w3).mono ?_
  rintro r w4 ⟨q,κ,rfl,hb,hg4⟩
  have HB:=zh hb
  have HG4:=zh hg4
  have hr4:=hg4.heap K7.out
  clear hb hg4 g0 g1 g2 g3 g4 g5
  have g0:=jB hr4 0 _ rfl
  have g1:=jB hr4 1 _ rfl
  have g2:=jB hr4 2 _ rfl
  have g3:=jB hr4 3 _ rfl
  have g4:=jB hr4 4 _ rfl
  have g5:=jB hr4 5 _ rfl
  clear hr4
  go_wp2_with fail
  refine (DY (W:=w3) (Nat.le_refl _) _ (zO t) (Nat.le_refl _) _ κ BS.new w4 (HN3.out.grew HG3.out) HOK3.out HG4.out BS.Good.new HB.out).mono ?_
  rintro r w5 ⟨rfl,κ5,hb5,ht5⟩
  have HB5:=zh hb5
  have HG5:Hid (jD w3 w5):=Moved.fresh HG4.out ht5.1 (fun g hg=>(HB.out.lt g hg).1)
  clear hb5 ht5 g0 g1 g2 g3 g4 g5
  go_wp2_with fail
  refine (uV HB5.out).mono ?_
  rw[HRV.out]
  dsimp only
  rintro r w6 ⟨v6,rfl,hf⟩
  have HG6:=zh (uU.grew_old HB5.out HG5.out (Nat.le_refl _) hf)
  obtain⟨κ6,k1,k2,k3,k4⟩:=hf
  obtain⟨va,vc,rfl,hz1,hz2,hz3⟩:=jR k3
  have HRO:=zh (y9 k3 (Nat.le_trans (HG2.out.trans HG3.out).size HG5.out.size))
  clear k1 k2 k3 k4 hz1 hz2 hz3
  go_wp2
  go_ret2
  exact⟨_,rfl,HRO.out,(HG2.out.trans HG3.out).trans HG6.out⟩
 ·have hb:(e != 0)=true:=by simpa using h0
  have HRV:Hid (D=[]∧E=e):=by
   have h:=HR.out
   unfold qO at h
   rw[if_pos (by rw[← HEE.out];exact h0),← HEE.out] at h
   exact⟨(congrArg Prod.fst h).symm,(congrArg Prod.snd h).symm⟩
  clear h0
  have HG3:=zh ((jD.refl w2).alloc (.cells #[.int .i64 rk,.int .i64 rn,.int .u64 ru,.string rs,.slice ra4 rn4 rc4,.slice ra5 rn5 rc5] 26))
  go_wp2
  go_ret2
  exact⟨.slice none 0 0,by rw[HRV.out.2];rfl,by rw[HRV.out.1];exact World.ownsRow_nil _ _ _ _,HG2.out.trans HG3.out⟩
theorem aM (jC:Int) (t:Tr) (v:Value) (w:World) (hn:k7 w t v) (hsz:t.size≤4096) (hok:KG t=0→okE (zO t)):Calls prog 11 #[v,.int .i64 jC] w fun r w'=>∃v',r=.returned (.tuple #[v',.int .i64 (qO 1048576 jC t).2])∧w'.ownsRow w.heap.size 5 1 v' (qO 1048576 jC t).1.length (Lib.byteCells (qO 1048576 jC t).1)∧jD w w':=by
 have HC:=zh (fun w' (hg:jD w w')=>bT jC 1048576 t v w' (hn.grew hg) hsz hok)
 obtain⟨k,n,u,s,a4,n4,c4,a5,n5,c5,rfl⟩:=hn.node6
 have HGA:=zh ((jD.refl w).alloc (.cells #[.int .i64 k,.int .i64 n,.int .u64 u,.string s,.slice a4 n4 c4,.slice a5 n5 c5] 26))
 have jJ:=heap_alloc_new w (.cells #[.int .i64 k,.int .i64 n,.int .u64 u,.string s,.slice a4 n4 c4,.slice a5 n5 c5] 26)
 have g0:=jB jJ 0 _ rfl
 have g1:=jB jJ 1 _ rfl
 have g2:=jB jJ 2 _ rfl
 have g3:=jB jJ 3 _ rfl
 have g4:=jB jJ 4 _ rfl
 have g5:=jB jJ 5 _ rfl
 clear hn hok jJ hsz
 generalize qO 1048576 jC t=R at *
 obtain⟨D,E⟩:=R
 dsimp only at *
 go_enter func11,ntmps11
 go_wp2_with fail
 generalize (w.alloc (.cells #[.int .i64 k,.int .i64 n,.int .u64 u,.string s,.slice a4 n4 c4,.slice a5 n5 c5] 26))=w1 at *
 refine (HC.out w1 HGA.out).mono ?_
 rintro r w2 ⟨v',rfl,ho,hg⟩
 obtain⟨va,vc,rfl,hz1,hz2,hz3⟩:=jR ho
 have HO:=zh (And.intro (y9 ho HGA.out.size) (HGA.out.trans hg))
 clear ho hg hz1 hz2 hz3
 go_wp2
 go_ret2
 exact⟨_,rfl,HO.out.1,HO.out.2⟩
mutual
def smB (K:Nat):Tr→Bool | .mk k n u s keys l=>(decide (s.size≤K) && keys.all fun q=>decide (q.size≤K)) && smBL K l
def smBL (K:Nat):List Tr→Bool | []=>true | t::r=>smB K t && smBL K r
end
mutual
theorem lM {K:Nat}:∀{t:Tr},smB K t=true→smT K t
 | .mk k n u s keys l,h=>by
  simp only[smB,Bool.and_eq_true,decide_eq_true_eq] at h
  exact⟨⟨h.1.1,fun q hq=>by simpa using List.all_eq_true.1 h.1.2 q hq⟩,BQ h.2⟩
theorem BQ {K:Nat}:∀{l:List Tr},smBL K l=true→smL K l
 | [],_=>trivial
 | t::r,h=>by
  simp only[smBL,Bool.and_eq_true] at h
  exact⟨lM h.1,BQ h.2⟩
end
theorem okE_of:∀(m:Nat) (t:Tr) (b:Nat),t.size≤m→t.size≤4096→YC b t→smT 1000 t→okE t:=by
 intro m
 induction m with
 | zero=>intro t b h;have:=t.size_pos;omega
 | succ m ih=>
  intro t b h hz hv hs
  obtain⟨k,n,u,s,keys,l⟩:=t
  obtain⟨_,_,v3,v4,_⟩:=JW hv
  have y6:=valL_iff.1 hv.2.2.2
  have hsl:=smL_iff.1 hs.2
  simp only[Tr.size] at h hz
  have hl:=J0 l
  exact⟨⟨by have:=hs.1.1;omega,fun q hq=>by have:=hs.1.2 q hq;omega,by omega,fun e=>(v4 e).2⟩,okEL_iff.2 fun x hx=>ih x (b+1) (by have:=yA hx;omega) (by have:=yA hx;omega) (y6 x hx) (hsl x hx)⟩
theorem cS {t:Tr} (hs:smT 1000 t) (h:KG t=0):okE (zO t):=by
 obtain⟨hz,hv⟩:=check_val.1 h
 obtain⟨hv2,hz2⟩:=gV t.size t 0 (Nat.le_refl _) hv
 exact okE_of _ _ 0 (Nat.le_refl _) (by omega) hv2 (p9 _ t (Nat.le_refl _) hs)
theorem BR {K L:Nat} (hKL:K≤L):∀(m:Nat) (t:Tr),t.size≤m→smT K t→smT L t:=by
 intro m
 induction m with
 | zero=>intro t h;have:=t.size_pos;omega
 | succ m ih=>
  intro t h hs
  obtain⟨k,n,u,s,keys,l⟩:=t
  simp only[Tr.size] at h
  have hsl:=smL_iff.1 hs.2
  exact⟨⟨by have:=hs.1.1;omega,fun q hq=>by have:=hs.1.2 q hq;omega⟩,smL_iff.2 fun x hx=>ih x (by have:=yA hx;omega) (hsl x hx)⟩
theorem wF (l:List ByteArray) (h:l.all (fun x=>decide (x.size≤1000))=true):∀x∈l,kF x.size:=fun x hx=>by have:=List.all_eq_true.1 h x hx;unfold kF;simp at this;omega
theorem QD (n:Int) (w:World):Calls prog 39 #[.int .i64 n] w fun r w'=>r=.returned (.agg #[.int .i64 3,.int .i64 n,.int .u64 0,.string ⟨#[]⟩,.slice none 0 0,.slice none 0 0])∧jD w w':=by
 go_enter func39,ntmps39
 go_wp2_with fail
 have hb:=heap_alloc_new w (.cells #[.int .i64 3,.int .i64 n,.int .u64 0,.string ⟨#[]⟩,.slice none 0 0,.slice none 0 0] 26)
 have hg:=(jD.refl w).alloc (.cells #[.int .i64 3,.int .i64 n,.int .u64 0,.string ⟨#[]⟩,.slice none 0 0,.slice none 0 0] 26)
 have z0:=jB hb 0 _ rfl
 have z1:=jB hb 1 _ rfl
 have z2:=jB hb 2 _ rfl
 have z3:=jB hb 3 _ rfl
 have z4:=jB hb 4 _ rfl
 have z5:=jB hb 5 _ rfl
 refine bodyPost_ret (v:=.agg #[.int .i64 3,.int .i64 n,.int .u64 0,.string ⟨#[]⟩,.slice none 0 0,.slice none 0 0]) (by simp[results,results39,go_sem,z0,z1,z2,z3,z4,z5]) rfl ?_
 exact⟨rfl,hg⟩
theorem lN (s:ByteArray) (w:World):Calls prog 42 #[.string s] w fun r w'=>r=.returned (.agg #[.int .i64 6,.int .i64 0,.int .u64 0,.string s,.slice none 0 0,.slice none 0 0])∧jD w w':=by
 go_enter func42,ntmps42
 go_wp2_with fail
 have hb:=heap_alloc_new w (.cells #[.int .i64 6,.int .i64 0,.int .u64 0,.string s,.slice none 0 0,.slice none 0 0] 26)
 have hg:=(jD.refl w).alloc (.cells #[.int .i64 6,.int .i64 0,.int .u64 0,.string s,.slice none 0 0,.slice none 0 0] 26)
 have z0:=jB hb 0 _ rfl
 have z1:=jB hb 1 _ rfl
 have z2:=jB hb 2 _ rfl
 have z3:=jB hb 3 _ rfl
 have z4:=jB hb 4 _ rfl
 have z5:=jB hb 5 _ rfl
 refine bodyPost_ret (v:=.agg #[.int .i64 6,.int .i64 0,.int .u64 0,.string s,.slice none 0 0,.slice none 0 0]) (by simp[results,results42,go_sem,z0,z1,z2,z3,z4,z5]) rfl ?_
 exact⟨rfl,hg⟩
theorem eV (a4:Option Addr) (n4 c4:Nat) (a5:Option Addr) (n5 c5:Nat) (w:World):Calls prog 40 #[.slice a4 n4 c4,.slice a5 n5 c5] w fun r w'=>r=.returned (.agg #[.int .i64 17,.int .i64 0,.int .u64 0,.string ⟨#[]⟩,.slice a4 n4 c4,.slice a5 n5 c5])∧jD w w':=by
 go_enter func40,ntmps40
 go_wp2_with fail
 have hb:=heap_alloc_new w (.cells #[.int .i64 17,.int .i64 0,.int .u64 0,.string ⟨#[]⟩,.slice a4 n4 c4,.slice a5 n5 c5] 26)
 have hg:=(jD.refl w).alloc (.cells #[.int .i64 17,.int .i64 0,.int .u64 0,.string ⟨#[]⟩,.slice a4 n4 c4,.slice a5 n5 c5] 26)
 have z0:=jB hb 0 _ rfl
 have z1:=jB hb 1 _ rfl
 have z2:=jB hb 2 _ rfl
 have z3:=jB hb 3 _ rfl
 have z4:=jB hb 4 _ rfl
 have z5:=jB hb 5 _ rfl
 refine bodyPost_ret (v:=.agg #[.int .i64 17,.int .i64 0,.int .u64 0,.string ⟨#[]⟩,.slice a4 n4 c4,.slice a5 n5 c5]) (by simp[results,results40,go_sem,z0,z1,z2,z3,z4,z5]) rfl ?_
 exact⟨rfl,hg⟩
theorem DZ (a5:Option Addr) (n5 c5:Nat) (w:World):Calls prog 41 #[.slice a5 n5 c5] w fun r w'=>r=.returned (.agg #[.int .i64 10,.int .i64 0,.int .u64 0,.string ⟨#[]⟩,.slice none 0 0,.slice a5 n5 c5])∧jD w w':=by
 go_enter func41,ntmps41
 go_wp2_with fail
 have hb:=heap_alloc_new w (.cells #[.int .i64 10,.int .i64 0,.int .u64 0,.string ⟨#[]⟩,.slice none 0 0,.slice a5 n5 c5] 26)
 have hg:=(jD.refl w).alloc (.cells #[.int .i64 10,.int .i64 0,.int .u64 0,.string ⟨#[]⟩,.slice none 0 0,.slice a5 n5 c5] 26)
 have z0:=jB hb 0 _ rfl
 have z1:=jB hb 1 _ rfl
 have z2:=jB hb 2 _ rfl
 have z3:=jB hb 3 _ rfl
 have z4:=jB hb 4 _ rfl
 have z5:=jB hb 5 _ rfl
 refine bodyPost_ret (v:=.agg #[.int .i64 10,.int .i64 0,.int .u64 0,.string ⟨#[]⟩,.slice none 0 0,.slice a5 n5 c5]) (by simp[results,results41,go_sem,z0,z1,z2,z3,z4,z5]) rfl ?_
 exact⟨rfl,hg⟩
theorem K5 (jC:Int) (t:Tr) (v:Value) (want:ByteArray) (w:World) (hn:k7 w t v) (hsz:t.size≤4096) (hs:smB 1000 t=true) (hd:qO 1048576 jC t=(want.data.toList,0)):Calls prog 38 #[v,.int .i64 jC,.string want] w fun r w'=>r=.returned (.bool true)∧jD w w':=by
 have HC:=zh (fun w' (hg:jD w w')=>aM jC t v w' (hn.grew hg) hsz (cS (lM hs)))
 rw[hd] at HC
 dsimp only at HC
 obtain⟨k,n,u,s,a4,n4,c4,a5,n5,c5,rfl⟩:=hn.node6
 have HGA:=zh ((jD.refl w).alloc (.cells #[.int .i64 k,.int .i64 n,.int .u64 u,.string s,.slice a4 n4 c4,.slice a5 n5 c5] 26))
 have jJ:=heap_alloc_new w (.cells #[.int .i64 k,.int .i64 n,.int .u64 u,.string s,.slice a4 n4 c4,.slice a5 n5 c5] 26)
 have g0:=jB jJ 0 _ rfl
 have g1:=jB jJ 1 _ rfl
 have g2:=jB jJ 2 _ rfl
 have g3:=jB jJ 3 _ rfl
 have g4:=jB jJ 4 _ rfl
 have g5:=jB jJ 5 _ rfl
 clear hn jJ hsz hs hd
 obtain⟨D,hD⟩:∃D,want.data.toList=D:=⟨_,rfl⟩
 have hDW:(⟨D.toArray⟩:ByteArray)=want:=by rw[← hD]
 rw[hD] at HC
 clear hD
 have HDW:=zh hDW
 clear hDW
 go_enter func38,ntmps38
 go_wp2_with fail
 generalize (w.alloc (.cells #[.int .i64 k,.int .i64 n,.int .u64 u,.string s,.slice a4 n4 c4,.slice a5 n5 c5] 26))=w1 at *
 refine (HC.out w1 HGA.out).mono ?_
 rintro r w2 ⟨v',rfl,ho,hg⟩
 have hst:=qG (zQ.of_own ho)
 rw[HDW.out] at hst
 obtain⟨va,vc,rfl,hz1,hz2,hz3⟩:=jR ho
 have HG:=zh (HGA.out.trans hg)
 have hse:=dC want want
 rw[decide_eq_true rfl] at hse
 clear ho hg hz1 hz2 hz3 g0 g1 g2 g3 g4 g5
 go_wp2
 go_ret
 exact⟨rfl,HG.out⟩
end Go.Proofs.YtdjoffgkndncfaaGreat
namespace Go.Proofs.YtdjoffgkndncfaaGreat
open Go.Proofs.Tryz
open Go Go.ChangeShapes Go.WideShapes Go.ChangeAt Go.RowKit Go.Joins Go.Deep
def vE (s:ByteArray) (c:Nat):ByteArray:=s++⟨#[35]⟩++⟨(Lib.repeatL [105] c).toArray⟩
def qU:List ByteArray→Nat→List ByteArray
 | [],_=>[]
 | q::r,c=>vE q (c+1)::qU r (c+1)
mutual
def zM:Tr→Nat→Tr × Nat
 | .mk k n u s keys l,c=>(.mk k n u (if 5≤k∧k≤6 then vE s (c+1) else s) (qU keys (if 5≤k∧k≤6 then c+1 else c)) (zT l ((if 5≤k∧k≤6 then c+1 else c)+keys.length)).1,(zT l ((if 5≤k∧k≤6 then c+1 else c)+keys.length)).2)
def zT:List Tr→Nat→List Tr × Nat
 | [],c=>([],c)
 | t::r,c=>((zM t c).1::(zT r (zM t c).2).1,(zT r (zM t c).2).2)
end
theorem K6:∀(l:List ByteArray) (c:Nat),(qU l c).length=l.length
 | [],_=>rfl
 | q::r,c=>by simp only[qU,List.length_cons,K6 r]
theorem lO (q:ByteArray):∀(l:List ByteArray) (c:Nat),qU (l++[q]) c=qU l c++[vE q (c+l.length+1)]
 | [],c=>by simp[qU]
 | x::r,c=>by
  simp only[List.cons_append,qU]
  rw[lO q r (c+1)]
  simp only[List.length_cons]
  rw[show c+1+r.length+1=c+(r.length+1)+1 by omega]
theorem lP (x:Tr):∀(l:List Tr) (c:Nat),zT (l++[x]) c=((zT l c).1++[(zM x (zT l c).2).1],(zM x (zT l c).2).2)
 | [],c=>by simp[zT]
 | t::r,c=>by
  simp only[List.cons_append,zT]
  rw[lP x r (zM t c).2]
theorem cT:∀(l:List Tr) (c:Nat),(zT l c).1.length=l.length
 | [],_=>rfl
 | t::r,c=>by simp only[zT,List.length_cons,cT r]
theorem KL (c:Nat):(Lib.repeatL [(105:UInt8)] c).length=c:=by
 induction c with
 | zero=>rfl
 | succ n ih=>rw[Lib.repeatL_length];simp
theorem QZ (s:ByteArray) (c:Nat):(vE s c).size=s.size+1+c:=by
 unfold vE
 rw[ByteArray.size_append,ByteArray.size_append]
 show s.size+1+(Lib.repeatL [(105:UInt8)] c).toArray.size=_
 rw[List.size_toArray,KL]
mutual
theorem GI:∀{t:Tr} {c:Nat},Few t→c≤(zM t c).2∧(zM t c).2≤c+4097*t.size
 | .mk k n u s keys l,c,h=>by
  simp only[Few] at h
  have ih:=lQ (l:=l) (c:=(if 5≤k∧k≤6 then c+1 else c)+keys.length) h.2.2
  simp only[zM,Tr.size]
  split at ih<;>split<;>simp_all<;>omega
theorem lQ:∀{l:List Tr} {c:Nat},aN l→c≤(zT l c).2∧(zT l c).2≤c+4097*kV l
 | [],c,_=>by simp[zT,kV]
 | t::r,c,h=>by
  simp only[aN] at h
  have h1:=GI (t:=t) (c:=c) h.1
  have h2:=lQ (l:=r) (c:=(zM t c).2) h.2
  simp only[zT,kV]
  omega
end
def YN (c:Nat):Obj:=.cells #[.int .i64 (c:Int)] 3 (0,0)
theorem GJ {w:World} {b c:Nat} (h:w.heap[b]? = some (YN c)) (p:Nat):(w.setCell ⟨b,0,none⟩ (.int .i64 (p:Int))).heap[b]? = some (YN p):=by
 have:=heap_setCell_same w b 0 _ _ (.int .i64 (p:Int)) h
 simpa [YN] using this
theorem D1 (keys:List ByteArray) (c kk:Nat) (q:ByteArray) (hq:keys[kk]? = some q):(qU (keys.take kk) c++keys.drop kk).set kk (vE q (c+kk+1))=qU (keys.take (kk+1)) c++keys.drop (kk+1):=by
 have hlt:=(List.getElem?_eq_some_iff.1 hq).1
 have e:=(List.getElem?_eq_some_iff.1 hq).2
 rw[List.take_add_one,hq]
 show _=qU (keys.take kk++[q]) c++_
 rw[lO,List.length_take,Nat.min_eq_left (by omega),List.drop_eq_getElem_cons hlt]
 have hl:(qU (keys.take kk) c).length=kk:=by rw[K6,List.length_take];omega
 rw[List.set_append_right _ _ (by omega),hl,Nat.sub_self,List.append_assoc]
 rfl
theorem once_at (keys:List ByteArray) (c kk:Nat) (q:ByteArray) (hq:keys[kk]? = some q):(qU (keys.take kk) c++keys.drop kk)[kk]? = some q:=by
 have hlt:=(List.getElem?_eq_some_iff.1 hq).1
 have hl:(qU (keys.take kk) c).length=kk:=by rw[K6,List.length_take];omega
 rw[List.getElem?_append_right (by omega),hl,Nat.sub_self,List.getElem?_drop]
 exact hq
theorem KD.fieldC {W wr wa w5:World} {g cb:Nat} {lv v' xv:Value} {ts:List Tr} {x:Tr} {Sx:Nat→Prop} (hgW:g < W.heap.size) (hcW:cb < W.heap.size) (vs:List Value) (S:Nat→Prop) (h2:k9 wr W.heap.size ts vs S) (h1:qA wr W.heap.size lv vs)
 (h3:∀q,S q→W.heap.size≤q∧q < wr.heap.size∧lv.ownBlock≠some q) (h4:Moved (fun q=>q=g∨q=cb) W wr) (hg:Moved (fun q=>q=cb) wr wa)
 (hx:yS wa wr.heap.size x xv Sx) (hSx:∀q,Sx q→wr.heap.size≤q∧q < wa.heap.size) (kC:qA w5 W.heap.size v' (vs++[xv])) (hm3:Moved (fun k=>some k=lv.ownBlock) wa w5) (hn:yP wa lv.ownBlock v'.ownBlock) :
 KD (fun q=>q=g∨q=cb) W (w5.setCell ⟨g,5,none⟩ v') v' (ts++[x]):=by
 have hm4:Moved (fun k=>k=g) w5 (w5.setCell ⟨g,5,none⟩ v'):=Moved.setCell (S:=fun k=>k=g) (p:=⟨g,5,none⟩) (Moved.refl _ w5) (fun _=>rfl) _
 have hlt:∀q,lv.ownBlock=some q→W.heap.size≤q∧q < wr.heap.size:=fun q hq=>World.ownsRow.lt h1.1 q hq
 have hs2:=hg.size
 have hs3:=hm3.size
 have hs4:=hm4.size
 have hWr:=h4.size
 have k1:k9 (w5.setCell ⟨g,5,none⟩ v') W.heap.size ts vs S:=((h2.kept hg (fun q hq e=>by have:=(h3 q hq).1;omega)).kept hm3 (fun q hq e=>(h3 q hq).2.2 e.symm)).kept hm4 (fun q hq e=>by have:=(h3 q hq).1;omega)
 have k2:yS (w5.setCell ⟨g,5,none⟩ v') W.heap.size x xv Sx:=((hx.kept hm3 (fun q hq e=>by have:=hlt q e.symm;have:=(hSx q hq).1;omega)).kept hm4 (fun q hq e=>by have:=(hSx q hq).1;omega)).base hWr
 refine⟨vs++[xv],fun q=>S q∨Sx q,⟨Moved.owns hm4 kC.1 (fun q hq e=>by have:=World.ownsRow.lt kC.1 q hq;omega),kC.2⟩,k1.app (k9.one k2) (fun q hq hh=>by have:=(h3 q hq).2.1;have:=(hSx q hh).1;omega),fun q hq=>?_,?_⟩
 ·have hb:W.heap.size≤q∧q < wa.heap.size:=by
   rcases hq with hq|hq
   ·have:=h3 q hq;omega
   ·have:=hSx q hq;omega
  refine⟨hb.1,by omega,fun e=>?_⟩
  rcases hn q e with e|e
  ·rcases hq with hq|hq
   ·exact (h3 q hq).2.2 e
   ·have:=hlt q e;have:=hSx q hq;omega
  ·omega
 ·exact ((h4.trans hg (fun j _ e=>.inr e)).trans hm3 (fun j hj e=>by have:=hlt j e.symm;omega)).trans hm4 (fun j _ e=>.inl e)
theorem oN {w:World} {b c:Nat} (h:w.heap[b]? = some (YN c)):(w.setCell ⟨b,0,none⟩ (.int .i64 ((c:Int)+1))).heap[b]? = some (YN (c+1)):=by
 rw[show ((c:Int)+1)=((c+1:Nat):Int) by omega]
 exact GJ h (c+1)
theorem oO {w:World} {b c:Nat} (h:w.heap[b]? = some (YN (c+1))):w.cell? ⟨b,0,none⟩=some (.int .i64 ((c:Int)+1)):=by
 rw[show ((c:Int)+1)=((c+1:Nat):Int) by omega]
 exact jB h 0 _ rfl
theorem lR (c:Nat) (hc:c≤2000000000) (w:World):Calls prog 51 #[.string ⟨#[105]⟩,.int .i64 ((c:Int)+1)] w fun e w'=>e=.returned (.string ⟨(Lib.repeatL [105] (c+1)).toArray⟩)∧jD w w':=by
 rw[show ((c:Int)+1)=((c+1:Nat):Int) by omega]
 exact Tryz.strings_Repeat ⟨#[105]⟩ (c+1) w (by omega) (by show 1*_≤_;omega)
def rJ (k n u:Int) (s:ByteArray) (kv:Value) (ga:Option Addr) (kk gc:Nat):Obj:=.cells #[.int .i64 k,.int .i64 n,.int .u64 u,.string s,kv,.slice ga kk gc] 26 (0,0)
def OcI (W wr:World) (g cb:Nat) (k n u:Int) (s:ByteArray) (kv:Value) (ts:List Tr) (kk c:Nat):Prop:=
 ∃ga gc,wr.heap[g]? = some (rJ k n u s kv ga kk gc)∧KD (fun q=>q=g∨q=cb) W wr (.slice ga kk gc) ts∧wr.heap[cb]? = some (YN c)
def OcW (wr:World) (cb c':Nat) (vv:Value) (P3:World→Prop):Nat→World→Prop
 | 0,w=>jD wr w
 | 1,w=>Moved (fun q=>q=cb) wr w∧w.heap[cb]? = some (YN c')
 | 2,w=>Moved (fun q=>q=cb∨some q=vv.ownBlock) wr w∧w.heap[cb]? = some (YN c')
 | _+3,w=>P3 w
theorem OcW.grew {wr:World} {cb c':Nat} {vv:Value} {P3:World→Prop} (h2:∀w w',jD w w'→P3 w→P3 w'):∀(p:Nat) (w w':World),jD w w'→OcW wr cb c' vv P3 p w→OcW wr cb c' vv P3 p w'
 | 0,_,_,hg,h=>jD.trans h hg
 | 1,_,_,hg,h=>⟨Moved.grew h.1 hg,hg.heap h.2⟩
 | 2,_,_,hg,h=>⟨Moved.grew h.1 hg,hg.heap h.2⟩
 | _+3,_,_,hg,h=>h2 _ _ hg h
theorem OcW.old {wr w:World} {cb c':Nat} {vv:Value} {P3:World→Prop} {p:Nat} (h:OcW wr cb c' vv P3 p w) (hp:p≤1) {k:Nat} {o:Obj} (ho:wr.heap[k]? = some o) (hne:k≠cb):w.heap[k]? = some o:=by
 match p,h,hp with
 | 0,h,_=>exact jD.heap h ho
 | 1,h,_=>exact Moved.heap h.1 ho hne
def OcX (wr:World) (x:Tr):Nat→Value→World→Prop
 | 0,_,_=>False
 | 1,v,w=>∃Sx,yS w wr.heap.size x v Sx∧∀q,Sx q→wr.heap.size≤q∧q < w.heap.size
 | _+2,_,_=>True
def OcY (wr:World) (x:Tr):Nat→Value→World→Prop
 | 0,_,_=>False
 | 1,v,w=>∃h xv Sx,v=.slice (some ⟨h,0,none⟩) 1 1∧w.heap[h]? = some (rowN xv)∧yS w wr.heap.size x xv Sx∧∀q,Sx q→wr.heap.size≤q∧q < w.heap.size
 | _+2,_,_=>True
def OcZ (W wr:World) (cb:Nat) (vv:Value) (vs:List Value) (x:Tr):Nat→Value→World→Prop
 | 0,_,_=>False
 | 1,_,_=>False
 | 2,v,w=>∃xv Sx wa,Moved (fun q=>q=cb) wr wa∧yS wa wr.heap.size x xv Sx∧(∀q,Sx q→wr.heap.size≤q∧q < wa.heap.size)∧qA w W.heap.size v (vs++[xv])∧Moved (fun k=>some k=vv.ownBlock) wa w∧yP wa vv.ownBlock v.ownBlock
 | _+3,_,_=>True
theorem OcX.st {wr:World} {x:Tr}:(∀p v w w',(fun (_:Nat) w w'=>jD w w') p w w'→OcX wr x p v w→OcX wr x p v w')∧∀p v w w',(fun _ _ _=>True:Nat→World→World→Prop) p w w'→OcX wr x p v w→OcX wr x (p+1) v w':=by
 refine⟨fun p v w w' hg h=>?_,fun p v w w' _ h=>?_⟩
 ·match p,h with
  | 1,⟨Sx,h,hb⟩=>exact⟨Sx,h.grew hg,fun q hq=>⟨(hb q hq).1,Nat.lt_of_lt_of_le (hb q hq).2 (jD.size hg)⟩⟩
  | _+2,_=>trivial
 ·match p,h with
  | 1,_=>trivial
  | _+2,_=>trivial
theorem OcY.st {wr:World} {x:Tr}:(∀p v w w',(fun (_:Nat) w w'=>jD w w') p w w'→OcY wr x p v w→OcY wr x p v w')∧∀p v w w',(fun _ _ _=>True:Nat→World→World→Prop) p w w'→OcY wr x p v w→OcY wr x (p+1) v w':=by
 refine⟨fun p v w w' hg h=>?_,fun p v w w' _ h=>?_⟩
 ·match p,h with
  | 1,⟨h',xv,Sx,e,hr,h,hb⟩=>exact⟨h',xv,Sx,e,jD.heap hg hr,h.grew hg,fun q hq=>⟨(hb q hq).1,Nat.lt_of_lt_of_le (hb q hq).2 (jD.size hg)⟩⟩
  | _+2,_=>trivial
 ·match p,h with
  | 1,_=>trivial
  | _+2,_=>trivial
theorem OcZ.st {W wr:World} {cb:Nat} {vv:Value} {vs:List Value} {x:Tr}:(∀p v w w',(fun (_:Nat) w w'=>jD w w') p w w'→OcZ W wr cb vv vs x p v w→OcZ W wr cb vv vs x p v w')∧∀p v w w',(fun _ _ _=>True:Nat→World→World→Prop) p w w'→OcZ W wr cb vv vs x p v w→OcZ W wr cb vv vs x (p+1) v w':=by
 refine⟨fun p v w w' hg h=>?_,fun p v w w' _ h=>?_⟩
 ·match p,h with
  | 2,⟨xv,Sx,wa,h1,h2,h3,h4,h5,h6⟩=>exact⟨xv,Sx,wa,h1,h2,h3,h4.grew hg,Moved.grew h5 hg,h6⟩
  | _+3,_=>trivial
 ·match p,h with
  | 2,_=>trivial
  | _+3,_=>trivial
theorem GK {o:Oper} {a:Act} {K:Act→World→Prop} {Q:Exit→Act→World→Prop} (w:World) (s x:Operand) (ho:o.op=.call {callee:=.builtin .append,args:=#[s,x],argTypes:=#[24,24]}) (B:Nat) (v:Value) (vs:List Value) (hs:a.eval s=v) (kC:qA w B v vs)
 (g c:Nat) (y:Value) (hx:a.eval x=.slice (some ⟨g,0,none⟩) 1 c) (hg:w.heap[g]? = some (rowN y)) (h6:Y3 y) (kQ:vs.length+1≤1048576) (hB:B≤w.heap.size)
 (h:∀v' w',qA w' B v' (vs++[y])→w.grownBy w' v.ownBlock→yP w v.ownBlock v'.ownBlock→K (a.put o.dst v') w'):o.wp prog a w K Q:=by
 obtain⟨i0,hi,hz0,hz1,hz2⟩:=bF
 have hnews:∀j u,(vM y)[j]? = some u→w.cell? ((⟨g,0,none⟩:Addr).add j)=some u:=by
  intro j u hj
  rw[lU,cell_of_row w g (0+j) _ _ _ hg]
  simpa using hj
 obtain⟨v',w',hr,h2,h3,h4⟩:=vQ (P:=prog) w B 24 o.type 26 i0 zF 6 88 underlying24 hi hz0 hz1 hz2 rfl (by decide) v vs.length _ kC.1 ⟨g,0,none⟩ 1 c (vM y) (by rw[YV h6]) hnews (f9 h6) (by unfold maxLen;omega) (by omega) hB
 refine Lib.wp_append_run w s x 24 24 ho v _ hs hx v' w' hr (h v' w' ⟨?_,?_⟩ h3 h4)
 ·rw[List.length_append,List.flatMap_append]
  simpa using h2
 ·intro x hx
  rcases List.mem_append.1 hx with hx|hx
  ·exact kC.2 x hx
  ·simp at hx;subst hx;exact h6
theorem OcI.grew {W wr wr':World} {g cb:Nat} {k n u:Int} {s:ByteArray} {kv:Value} {ts:List Tr} {kk c:Nat} (h:OcI W wr g cb k n u s kv ts kk c) (hg:jD wr wr'):OcI W wr' g cb k n u s kv ts kk c:=by
 obtain⟨ga,gc,h1,⟨vs,S,q1,q2,q3,q4⟩,h3⟩:=h
 exact⟨ga,gc,hg.heap h1,⟨vs,S,q1.grew hg,q2.grew hg,fun q hq=>⟨(q3 q hq).1,Nat.lt_of_lt_of_le (q3 q hq).2.1 hg.size,(q3 q hq).2.2⟩,q4.grew hg⟩,hg.heap h3⟩
theorem D2 {l:List Tr} (h:aN l):∀k,aN (l.take k):=by
 induction l with
 | nil=>intro k;simp[aN]
 | cons t r ih=>
  intro k
  simp only[aN] at h
  cases k with
  | zero=>simp[aN]
  | succ k=>simp only[List.take_succ_cons,aN];exact⟨h.1,ih h.2 k⟩
theorem lS:∀(l:List Tr) (k:Nat) {x:Tr},l[k]? = some x→kV (l.take k)+x.size≤kV l
 | [],k,x,h=>by simp at h
 | t::r,0,x,h=>by simp at h;subst h;simp[kV]
 | t::r,k+1,x,h=>by
  have:=lS r k (x:=x) (by simpa using h)
  simp only[List.take_succ_cons,kV]
  omega
theorem V5:∀(l:List ByteArray) (c:Nat),(∀q∈l,q.size≤1000)→c+l.length≤2000000000→∀x∈qU l c,kF x.size
 | [],_,_,_,x,hx=>by simp[qU] at hx
 | q::r,c,h,hc,x,hx=>by
  simp only[List.length_cons] at hc
  simp only[qU] at hx
  rcases List.mem_cons.1 hx with rfl|hx
  ·rw[QZ]
   have:=h q (by simp)
   unfold kF
   omega
  ·exact V5 r (c+1) (fun z hz=>h z (by simp[hz])) (by omega) x hx
theorem zonce {p:Prop} (h:p:=by
 go_wp2_with fail
 go_loopw [6] (fun i wr=>∃kk:Nat,kk≤keys.length∧i=.int .i64 kk∧Hid (zE wr (N+2) (.slice va keys.length vc) (qU (keys.take kk) c1++keys.drop kk)∧wr.heap[cb]? = some (YN (c1+kk))∧wr.heap[g]? = some (rJ k n u s2 (.slice va keys.length vc) none 0 0)∧Moved (fun q=>q=cb) w wr∧wr.heap[N]? = some (.cells #[.int .i64 k,.int .i64 n,.int .u64 u,.string s,.slice a4 keys.length c4,.slice a5 l.length c5] 26 (0,0))∧wr.heap[N+1]? = some (.cells #[.int .i64 0,.int .i64 0,.int .u64 0,.string ⟨#[]⟩,.slice none 0 0,.slice none 0 0] 26 (0,0)))) (fun i _=>keys.length - (intOf i).toNat)
 case atStart=>exact⟨0,Nat.zero_le _,rfl,by simpa [qU] using HKV5.out,HCB5.out,HROW5.out,HM5.out,HB15.out,HB25.out⟩
 case round=>
  obtain⟨kk,hkk,rfl,HW⟩:=hrel
  obtain⟨hkv,hcbr,hrowg,hmr,hbx,hzx⟩:=HW.out
  have r4:=jB hrowg 4 _ rfl
  have rc:=jB hcbr 0 _ rfl
  have rf:=jF hcbr 0
  obtain⟨cj,hcj⟩:∃cj,c1+kk=cj:=⟨_,rfl⟩
  have HCJ:Hid (cj≤1500000000):=by show _≤_;have:=HC1.out;have:=HF1.out;omega
  have HJE:Hid (c1+kk=cj):=hcj
  rw[hcj] at hcbr rc
  by_cases hlt:kk < keys.length
  ·have hlti:(kk:Int) < keys.length:=by omega
   obtain⟨q,hq⟩:∃q,keys[kk]? = some q:=⟨_,List.getElem?_eq_getElem hlt⟩
   obtain⟨kb,hva⟩:∃kb,va=some ⟨kb,0,none⟩:=by
    rcases hkv.2 with ⟨e,hn⟩|⟨g1,cap,cur,e,_⟩
    ·rw[List.length_append,K6,List.length_take,List.length_drop] at hn;omega
    ·injection e with e1;exact⟨g1,e1⟩
   subst hva
   have HKB:Hid (N+2≤kb):=(World.ownsRow.lt hkv kb rfl).1
   have HKG:Hid (g≠kb):=fun e=>vW hkv hrowg (by decide) (by rw[e];rfl)
   have hmc:=z8 wr cb 0 (.int .i64 ((cj:Int)+1))
   have hwc:IntKind.i64.wrap ((cj:Int)+1)=(cj:Int)+1:=by rw[IntKind.wrap_i64];have:=HCJ.out;omega
   have HKA:Hid (zE (wr.setCell ⟨cb,0,none⟩ (.int .i64 ((cj:Int)+1))) (N+2) (.slice (some ⟨kb,0,none⟩) keys.length vc) (qU (keys.take kk) c1++keys.drop kk)):=Moved.owns hmc hkv (fun e he h=>by have:=(World.ownsRow.lt hkv e he).1;have:=hcbN.out;omega)
   have HCA:Hid ((wr.setCell ⟨cb,0,none⟩ (.int .i64 ((cj:Int)+1))).heap[cb]? = some (YN (cj+1))):=oN hcbr
   have HGA:Hid ((wr.setCell ⟨cb,0,none⟩ (.int .i64 ((cj:Int)+1))).heap[g]? = some (rJ k n u s2 (.slice (some ⟨kb,0,none⟩) keys.length vc) none 0 0)):=hmc.heap hrowg (by have:=hgN.out;have:=hcbN.out;omega)
   have HBA:Hid ((wr.setCell ⟨cb,0,none⟩ (.int .i64 ((cj:Int)+1))).heap[N]? = some (.cells #[.int .i64 k,.int .i64 n,.int .u64 u,.string s,.slice a4 keys.length c4,.slice a5 l.length c5] 26 (0,0))):=hmc.heap hbx (by have:=hcbN.out;omega)
   have HZA:Hid ((wr.setCell ⟨cb,0,none⟩ (.int .i64 ((cj:Int)+1))).heap[N+1]? = some (.cells #[.int .i64 0,.int .i64 0,.int .u64 0,.string ⟨#[]⟩,.slice none 0 0,.slice none 0 0] 26 (0,0))):=hmc.heap hzx (by have:=hcbN.out;omega)
   have HMA:Hid (Moved (fun q=>q=cb) w (wr.setCell ⟨cb,0,none⟩ (.int .i64 ((cj:Int)+1)))):=hmr.trans' hmc
   have HAT:=zh (once_at keys c1 kk q hq)
   have HNX:=D1 keys c1 kk q hq
   rw[hcj] at HNX
   replace HNX:=zh HNX
   have HQZ:Hid (q.size≤1000):=HSM.out.1.2 q (List.mem_of_getElem? hq)
   clear hq hkv hcbr hrowg hmr hbx hzx hmc HW
   go_wp2_with fail
   generalize wr.setCell ⟨cb,0,none⟩ (.int .i64 ((cj:Int)+1))=wa at *
   clear r4 rc rf
   have r4:=jB HGA.out 4 _ rfl
   have rc:=oO HCA.out
   have kq:=zE.at HKA.out HAT.out
   refine vG jD [[],[0],[],[],[3],[],[4,5],[6],[7],[],[9],[10],[11],[8,12],[1,2],[13,14]] [[(58,2),(59,3),(60,4),(61,5),(62,6),(63,7),(64,8),(65,9),(66,10),(67,11),(68,12),(69,13),(70,14)],[(56,0),(58,2),(59,3),(60,4),(61,5),(62,6),(63,7),(64,8),(65,9),(66,10),(67,11),(68,12),(69,13)],[(56,0),(57,1),(59,3),(60,4),(61,5),(62,6),(63,7),(64,8),(65,9),(66,10),(67,11),(68,12),(69,13)],[(56,0),(57,1),(58,2),(61,5),(62,6),(63,7),(64,8),(65,9),(66,10),(67,11),(68,12),(69,13),(70,14)],[(56,0),(57,1),(58,2),(59,3),(61,5),(63,7),(64,8),(65,9),(66,10),(67,11),(68,12),(69,13),(70,14)],[(56,0),(57,1),(58,2),(59,3),(60,4),(63,7),(64,8),(65,9),(66,10),(67,11),(68,12),(69,13),(70,14)],[(56,0),(57,1),(58,2),(59,3),(60,4),(61,5),(64,8),(65,9),(66,10),(67,11),(68,12),(69,13),(70,14)],[(56,0),(57,1),(58,2),(59,3),(60,4),(61,5),(62,6),(65,9),(66,10),(67,11),(68,12),(69,13),(70,14)],[(56,0),(57,1),(58,2),(59,3),(60,4),(61,5),(62,6),(63,7),(65,9),(66,10),(67,11),(68,12),(70,14)],[(56,0),(57,1),(58,2),(59,3),(60,4),(61,5),(62,6),(63,7),(64,8),(67,11),(68,12),(69,13),(70,14)],[(56,0),(57,1),(58,2),(59,3),(60,4),(61,5),(62,6),(63,7),(64,8),(65,9),(68,12),(69,13),(70,14)],[(56,0),(57,1),(58,2),(59,3),(60,4),(61,5),(62,6),(63,7),(64,8),(65,9),(66,10),(69,13),(70,14)],[(56,0),(57,1),(58,2),(59,3),(60,4),(61,5),(62,6),(63,7),(64,8),(65,9),(66,10),(67,11),(70,14)],[(56,0),(57,1),(58,2),(59,3),(60,4),(61,5),(62,6),(63,7),(64,8),(65,9),(66,10),(67,11),(68,12),(70,14)],[(56,0),(57,1),(58,2),(59,3),(60,4),(61,5),(62,6),(63,7),(64,8),(65,9),(66,10),(67,11),(68,12),(69,13)],[(56,0),(57,1),(58,2),(59,3),(60,4),(61,5),(62,6),(63,7),(64,8),(65,9),(66,10),(67,11),(68,12),(69,13),(70,14)]]
    [Is (.pointer (some ⟨g,4,none⟩)),Is (.slice (some ⟨kb,0,none⟩) keys.length vc),Is (.int .i64 (kk:Int)),Is (.pointer (some ⟨g,4,none⟩)),Is (.slice (some ⟨kb,0,none⟩) keys.length vc),Is (.int .i64 (kk:Int)),Is (.pointer (some ⟨kb,kk,none⟩)),Is (.string q),Is (.string (q++⟨#[35]⟩)),Is (jI cb),Is (jI cb),Is (.int .i64 ((cj:Int)+1)),Is (.string ⟨(Lib.repeatL [105] (cj+1)).toArray⟩),Is (.string (vE q (cj+1))),Is (.pointer (some ⟨kb,kk,none⟩))]
    zk jD.trans jD.refl (jD.refl _).drew zk ⟨jN,jN,jN,jN,jN,jN,jN,jN,jN,jN,jN,jN,jN,jN,jN,trivial⟩ rfl ⟨?_,?_,?_,?_,?_,?_,?_,?_,?_,?_,?_,?_,?_,?_,?_,trivial⟩ ?_ rfl
   ·intro y wk hG hD K hK
    simp only[jE,Act.put,zq1,zq2,zq3,zq4,zq5,Is] at hK⊢
    refine jL ?_
    go_simp
    exact hK _ _ _ rfl (jD.refl _) rfl
   ·intro y wk hG hD K hK
    simp only[jY,zq4,zq5,Is,and_true] at hD
    have h0:=hD
    clear hD
    have dr4:=hG.cell r4
    have dkq:=hG.cell kq
    have drc:=hG.cell rc
    simp only[jE,Act.put,zq1,zq2,zq3,zq4,zq5,Is] at hK⊢
    rw[h0] at hK⊢
    clear h0
    refine jL ?_
    go_simp
    exact hK _ _ _ rfl (jD.refl _) rfl
   ·intro y wk hG hD K hK
    simp only[jE,Act.put,zq1,zq2,zq3,zq4,zq5,Is] at hK⊢
    refine jL ?_
    go_simp
    exact hK _ _ _ rfl (jD.refl _) rfl
   ·intro y wk hG hD K hK
    simp only[jE,Act.put,zq1,zq2,zq3,zq4,zq5,Is] at hK⊢
    refine jL ?_
    go_simp
    exact hK _ _ _ rfl (jD.refl _) rfl
   ·intro y wk hG hD K hK
    simp only[jY,zq4,zq5,Is,and_true] at hD
    have h3:=hD
    clear hD
    have dr4:=hG.cell r4
    have dkq:=hG.cell kq
    have drc:=hG.cell rc
    simp only[jE,Act.put,zq1,zq2,zq3,zq4,zq5,Is] at hK⊢
    rw[h3] at hK⊢
    clear h3
    refine jL ?_
    go_simp
    exact hK _ _ _ rfl (jD.refl _) rfl
   ·intro y wk hG hD K hK
    simp only[jE,Act.put,zq1,zq2,zq3,zq4,zq5,Is] at hK⊢
    refine jL ?_
    go_simp
    exact hK _ _ _ rfl (jD.refl _) rfl
   ·intro y wk hG hD K hK
    simp only[jY,zq4,zq5,Is,and_true] at hD
    have h4:=hD.1
    have h5:=hD.2
    clear hD
    simp only[jE,Act.put,zq1,zq2,zq3,zq4,zq5,Is] at hK⊢
    rw[h4,h5] at hK⊢
    clear h4 h5
    refine jL ?_
    go_simp
    exact hK _ _ _ rfl (jD.refl _) rfl
   ·intro y wk hG hD K hK
    simp only[jY,zq4,zq5,Is,and_true] at hD
    have h6:=hD
    clear hD
    have dr4:=hG.cell r4
    have dkq:=hG.cell kq
    have drc:=hG.cell rc
    simp only[jE,Act.put,zq1,zq2,zq3,zq4,zq5,Is] at hK⊢
    rw[h6] at hK⊢
    clear h6
    refine jL ?_
    go_simp
    exact hK _ _ _ rfl (jD.refl _) rfl
   ·intro y wk hG hD K hK
    simp only[jY,zq4,zq5,Is,and_true] at hD
    have h7:=hD
    clear hD
    simp only[jE,Act.put,zq1,zq2,zq3,zq4,zq5,Is] at hK⊢
    rw[h7] at hK⊢
    clear h7
    refine jL ?_
    go_simp
    rw[if_neg (by have:=HQZ.out;omega)]
    go_simp
    exact hK _ _ _ rfl (jD.refl _) rfl
   ·intro y wk hG hD K hK
    simp only[jE,Act.put,zq1,zq2,zq3,zq4,zq5,Is] at hK⊢
    refine jL ?_
    go_simp
    exact hK _ _ _ rfl (jD.refl _) rfl
   ·intro y wk hG hD K hK
    simp only[jY,zq4,zq5,Is,and_true] at hD
    have h9:=hD
    clear hD
    simp only[jE,Act.put,zq1,zq2,zq3,zq4,zq5,Is] at hK⊢
    rw[h9] at hK⊢
    clear h9
    refine jL ?_
    go_simp
    exact hK _ _ _ rfl (jD.refl _) rfl
   ·intro y wk hG hD K hK
    simp only[jY,zq4,zq5,Is,and_true] at hD
    have h10:=hD
    clear hD
    have dr4:=hG.cell r4
    have dkq:=hG.cell kq
    have drc:=hG.cell rc
    simp only[jE,Act.put,zq1,zq2,zq3,zq4,zq5,Is] at hK⊢
    rw[h10] at hK⊢
    clear h10
    refine jL ?_
    go_simp
    exact hK _ _ _ rfl (jD.refl _) rfl
   ·intro y wk hG hD K hK
    simp only[jY,zq4,zq5,Is,and_true] at hD
    have h11:=hD
    clear hD
    simp only[jE,Act.put,zq1,zq2,zq3,zq4,zq5,Is] at hK⊢
    rw[h11] at hK⊢
    clear h11
    refine jL ?_
    go_simp
    refine (lR cj (by have:=HCJ.out;omega) wk).mono ?_
    rintro r w5 ⟨rfl,hg5⟩
    exact hK _ _ _ rfl hg5 rfl
   ·intro y wk hG hD K hK
    simp only[jY,zq4,zq5,Is,and_true] at hD
    have h8:=hD.1
    have h12:=hD.2
    clear hD
    simp only[jE,Act.put,zq1,zq2,zq3,zq4,zq5,Is] at hK⊢
    rw[h8,h12] at hK⊢
    clear h8 h12
    refine jL ?_
    go_simp
    rw[if_neg (by have:=HQZ.out;have:=HCJ.out;have h1:=KL (cj+1);omega)]
    go_simp
    exact hK _ _ _ rfl (jD.refl _) rfl
   ·intro y wk hG hD K hK
    simp only[jY,zq4,zq5,Is,and_true] at hD
    have h1:=hD.1
    have h2:=hD.2
    clear hD
    simp only[jE,Act.put,zq1,zq2,zq3,zq4,zq5,Is] at hK⊢
    rw[h1,h2] at hK⊢
    clear h1 h2
    refine jL ?_
    go_simp
    exact hK _ _ _ rfl (jD.refl _) rfl
   ·intro y wk hG hF K hK
    simp only[yG,Is,and_true,Nat.reduceAdd] at hF
    have h0:=hF.1
    have h1:=hF.2.1
    have h2:=hF.2.2.1
    have h3:=hF.2.2.2.1
    have h4:=hF.2.2.2.2.1
    have h5:=hF.2.2.2.2.2.1
    have h6:=hF.2.2.2.2.2.2.1
    have h7:=hF.2.2.2.2.2.2.2.1
    have h8:=hF.2.2.2.2.2.2.2.2.1
    have h9:=hF.2.2.2.2.2.2.2.2.2.1
    have h10:=hF.2.2.2.2.2.2.2.2.2.2.1
    have h11:=hF.2.2.2.2.2.2.2.2.2.2.2.1
    have h12:=hF.2.2.2.2.2.2.2.2.2.2.2.2.1
    have h13:=hF.2.2.2.2.2.2.2.2.2.2.2.2.2.1
    have h14:=hF.2.2.2.2.2.2.2.2.2.2.2.2.2.2
    clear hF
    simp only[JH]
    simp only[jE,Act.put,zq1,zq2,zq3,zq4,zq5,Is] at hK⊢
    rw[h0,h1,h2,h3,h4,h5,h6,h7,h8,h9,h10,h11,h12,h13,h14]
    clear h0 h1 h2 h3 h4 h5 h6 h7 h8 h9 h10 h11 h12 h13 h14
    refine jL ?_
    have hg9:=Moved.of_grew (S:=fun _=>False) hG
    have hkv9:=zE.grew HKA.out hG
    have hkq:=zE.stored hkv9 kk (vE q (cj+1))
    rw[HNX.out] at hkq
    have dfk:=zE.frozen hkv9 kk
    have dck:=zE.at hkv9 HAT.out
    have hmk:=z8 wk kb kk (.string (vE q (cj+1)))
    go_simp
    refine hK _ _ ?_
    have HKI:Hid (zE (wk.setCell ⟨kb,kk,none⟩ (.string (vE q (cj+1)))) (N+2) (.slice (some ⟨kb,0,none⟩) keys.length vc) (qU (keys.take (kk+1)) c1++keys.drop (kk+1))∧(wk.setCell ⟨kb,kk,none⟩ (.string (vE q (cj+1)))).heap[cb]? = some (YN (c1+(kk+1)))∧(wk.setCell ⟨kb,kk,none⟩ (.string (vE q (cj+1)))).heap[g]? = some (rJ k n u s2 (.slice (some ⟨kb,0,none⟩) keys.length vc) none 0 0)∧Moved (fun q=>q=cb) w (wk.setCell ⟨kb,kk,none⟩ (.string (vE q (cj+1))))∧(wk.setCell ⟨kb,kk,none⟩ (.string (vE q (cj+1)))).heap[N]? = some (.cells #[.int .i64 k,.int .i64 n,.int .u64 u,.string s,.slice a4 keys.length c4,.slice a5 l.length c5] 26 (0,0))∧(wk.setCell ⟨kb,kk,none⟩ (.string (vE q (cj+1)))).heap[N+1]? = some (.cells #[.int .i64 0,.int .i64 0,.int .u64 0,.string ⟨#[]⟩,.slice none 0 0,.slice none 0 0] 26 (0,0))):=by
     have h7:=HKB.out
     have h8:=hcbN.out
     exact⟨hkq,(by rw[show c1+(kk+1)=cj+1 by have:=HJE.out;omega];exact hmk.heap (hG.heap HCA.out) (by omega)),hmk.heap (hG.heap HGA.out) (fun e=>HKG.out e),(HMA.out.grew hG).trans hmk (fun j hj e=>by have:=HN.out;omega),hmk.heap (hG.heap HBA.out) (by omega),hmk.heap (hG.heap HZA.out) (by omega)⟩
    clear hkq hkv9 hmk hg9 hG
    go_wp2_with fail
    go_roundw
    case rel=>exact⟨kk+1,by omega,by go_num,HKI.out⟩
    case measure=>simp[intOf];omega
  ·have ek:kk=keys.length:=by omega
   subst ek
   rw[List.take_length,List.drop_length,List.append_nil] at hkv
   obtain⟨c2,hc2⟩:∃c2,c1+keys.length=c2:=⟨_,rfl⟩
   rw[← hcj,hc2] at hcbr
   rw[hc2] at HT HC2
   have HKV6:=zh hkv
   have HCB6:=zh hcbr
   have HROW6:=zh hrowg
   have HM6:=zh hmr
   have HB16:=zh hbx
   have HB26:=zh hzx
   have HKG:Hid (∀q,(Value.slice va keys.length vc).ownBlock=some q→q≠g):=fun q hq e=>vW hkv hrowg (by decide) (by rw[hq,e])
   clear hkv hcbr hrowg hmr hbx hzx HW rc rf
   go_wp2_with fail
   clear r4
   generalize wr=w6 at *
   go_loopw [7] (fun i wr=>∃kk:Nat,kk≤l.length∧i=.int .i64 kk∧Hid (OcI w6 wr g cb k n u s2 (.slice va keys.length vc) (zT (l.take kk) c2).1 kk (zT (l.take kk) c2).2)) (fun i _=>l.length - (intOf i).toNat)
   case atStart=>exact⟨0,Nat.zero_le _,rfl,none,0,HROW6.out,by simpa [zT] using KD.start _ _,by simpa [zT] using HCB6.out⟩
   case round=>
    obtain⟨kk,hkk,rfl,HW⟩:=hrel
    obtain⟨ga,gc,hrowg,hgrow,hcbr⟩:=HW.out
    have hmv:Moved (fun q=>q=g∨q=cb) w6 wr:=by obtain⟨_,_,_,_,_,h⟩:=hgrow;exact h
    have HMV:=zh hmv
    have HGW6:Hid (g < w6.heap.size):=(Array.getElem?_eq_some_iff.1 HROW6.out).1
    have HCW:Hid (cb < w6.heap.size):=(Array.getElem?_eq_some_iff.1 HCB6.out).1
    have HMR:Hid (Moved (fun q=>q=cb) w wr):=HM6.out.trans hmv (fun j hj e=>by have:=hgN.out;have:=HN.out;omega)
    have HROWG:=zh hrowg
    have HCBR:=zh hcbr
    have HBX:Hid (wr.heap[N]? = _):=Moved.heap hmv HB16.out (fun e=>by have:=hgN.out;have:=hcbN.out;omega)
    have HRX:Hid (wr.heap[N+1]? = _):=Moved.heap hmv HB26.out (fun e=>by have:=hgN.out;have:=hcbN.out;omega)
    have b5:=jB HBX.out 5 _ rfl
    clear hrowg hcbr hmv HW
    by_cases hlt:kk < l.length
    ·have hlti:(kk:Int) < l.length:=by omega
     obtain⟨x,hx⟩:∃x,l[kk]? = some x:=⟨_,List.getElem?_eq_getElem hlt⟩
     obtain⟨f,f1,f2,f3⟩:=(HKEEP.out wr HMR.out).2.idx
     obtain⟨xv,hxv,hnx⟩:=HK.out.get hx
     have hxm:x∈l:=List.mem_of_getElem? hx
     have HFX:=zh (HF3.out.mem hxm)
     have HXS:=zh (HSZ.out x hxm)
     have HSX:=zh (smL_iff.1 HSM.out.2 x hxm)
     obtain⟨Sk,hSk⟩:∃Sk,f kk=Sk:=⟨_,rfl⟩
     have hox:=f3 kk x xv hx hxv
     rw[hSk] at hox
     have HSK:Hid (∀q,Sk q→q < w.heap.size∧q≠cb):=fun q hq=>HS.out q (f1 kk q (by rw[hSk];exact hq))
     have HWS:Hid (w.heap.size≤wr.heap.size):=HMR.out.size
     have HOX:Hid (∀w',Moved (fun q=>q=cb) wr w'→yS w' B x xv Sk):=fun w' hm=>hox.kept hm (fun q hq e=>(HSK.out q hq).2 e)
     obtain⟨bb,off,rfl,kZ⟩:∃bb off,a5=some ⟨bb,off,none⟩∧qI wr bb (off+kk*6) xv:=by
      obtain⟨a,c,e,_,_,_,h⟩:=(HKEEP.out wr HMR.out).1.rows
      injection e with e1 e2 e3
      subst e1
      obtain⟨b,off,e,h6⟩:=h kk xv hxv
      exact⟨b,off,e,h6⟩
     obtain⟨xk,xn,xu,xs,xa4,xn4,xc4,xa5,xn5,xc5,rfl⟩:=hnx.node6
     obtain⟨e0,e1,e2,e3,e4,e5⟩:=kZ.get
     obtain⟨c0,hc0⟩:∃c0,(zT (l.take kk) c2).2=c0:=⟨_,rfl⟩
     have HX:Hid (zT (l.take (kk+1)) c2=((zT (l.take kk) c2).1++[(zM x c0).1],(zM x c0).2)):=by
      show _=_
      rw[List.take_add_one,hx]
      show zT (l.take kk++[x]) c2=_
      rw[lP,hc0]
     have HCX:Hid (c0+4097*x.size≤1000000000):=by
      have h1:=(lQ (l:=l.take kk) (c:=c2) (D2 HF3.out kk)).2
      have h2:=lS l kk hx
      have:=HC2.out
      show _≤_
      omega
     rw[hc0] at HCBR
     obtain⟨vs4,S4,q1,q2,q3,q4⟩:=hgrow
     have HL4:Hid (vs4.length=kk):=by show _=_;rw[q2.length,cT,List.length_take];omega
     have HQ1:=zh q1
     have HQ2:=zh q2
     have HQ3:=zh q3
     have HQ4:=zh q4
     have HGL:Hid (∀e,(Value.slice ga kk gc).ownBlock=some e→e≠g):=fun e he=>by have:=World.ownsRow.lt q1.1 e he;have:=HGW6.out;omega
     have HCL:Hid (∀e,(Value.slice ga kk gc).ownBlock=some e→e≠cb):=fun e he=>by have:=World.ownsRow.lt q1.1 e he;have:=HCW.out;omega
     have hgc:g≠cb:=by have:=hgN.out;have:=hcbN.out;omega
     have hcg:cb≠g:=fun e=>hgc e.symm
     clear q1 q2 q3 q4 kZ hx hxv hnx hxm f1 f2 f3 hSk hox hc0
     go_wp2_with fail
     refine jP [8,10,12] (OcW wr cb (zM x c0).2 (.slice ga kk gc) (fun w'=>OcI w6 w' g cb k n u s2 (.slice va keys.length vc) (zT (l.take (kk+1)) c2).1 (kk+1) (zT (l.take (kk+1)) c2).2)) (fun _ w w'=>jD w w') ((fun p (_:Nat→Value)=>(fun _ _ _=>True) p)) [[],[0],[],[2],[],[2,3,4],[2,3,4,5],[],[2,3,4,5,6,7],[2,3,4,5,6,7,8],[0,1,2,3,4,5,6,7,8,9],[0,1,2,3,4,5,6,7,8,9,10],[0,1,2,3,4,5,6,7,8,9,10,11]] [[(80,2),(81,3),(82,4),(83,5),(84,6),(85,7),(86,8),(87,9)],[(78,0),(80,2),(81,3),(82,4),(83,5),(84,6),(85,7),(86,8),(87,9)],[(78,0),(79,1),(82,4),(85,7)],[(78,0),(79,1),(80,2),(82,4),(85,7)],[(78,0),(79,1),(80,2),(81,3),(85,7)],[(78,0),(79,1),(80,2),(81,3),(82,4),(85,7)],[(78,0),(79,1),(80,2),(81,3),(82,4),(83,5),(85,7)],[(78,0),(79,1),(80,2),(81,3),(82,4),(83,5),(84,6)],[(78,0),(79,1),(80,2),(81,3),(82,4),(83,5),(84,6),(85,7)],[(78,0),(79,1),(80,2),(81,3),(82,4),(83,5),(84,6),(85,7),(86,8)],[(78,0),(79,1),(80,2),(81,3),(82,4),(83,5),(84,6),(85,7),(86,8),(87,9)],[(78,0),(79,1),(80,2),(81,3),(82,4),(83,5),(84,6),(85,7),(86,8),(87,9),(88,10)],[(78,0),(79,1),(80,2),(81,3),(82,4),(83,5),(84,6),(85,7),(86,8),(87,9),(88,10),(89,11)]] [(78,0),(79,1),(80,2),(81,3),(82,4),(83,5),(84,6),(85,7),(86,8),(87,9),(88,10),(89,11)]
      [IsP (.pointer (some ⟨g,5,none⟩)),IsP (.slice ga kk gc),IsP (.pointer (some ⟨N,5,none⟩)),IsP (.slice (some ⟨bb,off,none⟩) l.length c5),IsP (.int .i64 (kk:Int)),IsP (.pointer (some ⟨bb,off+kk*6,none⟩)),IsP (.agg #[.int .i64 xk,.int .i64 xn,.int .u64 xu,.string xs,.slice xa4 xn4 xc4,.slice xa5 xn5 xc5]),IsP (jI cb),OcX wr (zM x c0).1,OcY wr (zM x c0).1,OcZ w6 wr cb (.slice ga kk gc) vs4 (zM x c0).1,IsP (.pointer (some ⟨g,5,none⟩)),fun _ _ _=>True]
      zk (OcW.grew (fun w1 w2 hg h=>OcI.grew h hg)) ((jD.refl _).drew) zk zk ⟨jH,jH,jH,jH,jH,jH,jH,jH,KA (OcX.st),KA (OcY.st),KA (OcZ.st),jH,⟨fun _ _ _ _ _ h=>h,fun _ _ _ _ _ h=>h⟩,trivial⟩ rfl ?_ ?_
     ·intro y w9 hW hF
      simp only[yI,IsP,Nat.reduceAdd,List.length_cons,List.length_nil] at hF hW
      have h0:=hF.1
      have h1:=hF.2.1
      have h2:=hF.2.2.1
      have h3:=hF.2.2.2.1
      have h4:=hF.2.2.2.2.1
      have h5:=hF.2.2.2.2.2.1
      have h6:=hF.2.2.2.2.2.2.1
      have h7:=hF.2.2.2.2.2.2.2.1
      have h8:=hF.2.2.2.2.2.2.2.2.1
      have h9:=hF.2.2.2.2.2.2.2.2.2.1
      have h10:=hF.2.2.2.2.2.2.2.2.2.2.1
      have h11:=hF.2.2.2.2.2.2.2.2.2.2.2.1
      clear hF
      simp only[jE,Act.put,zq1,zq2,zq3,zq4,zq5]
      simp only[h0,h1,h2,h3,h4,h5,h6,h7,h11]
      clear h0 h1 h2 h3 h4 h5 h6 h7 h11
      have hI:OcI w6 w9 g cb k n u s2 (.slice va keys.length vc) (zT (l.take (kk+1)) c2).1 (kk+1) (zT (l.take (kk+1)) c2).2:=hW
      have HREL:=zh hI
      clear hW hI h8 h9 h10 e0 e1 e2 e3 e4 e5 b5
      go_wp2_with fail
      go_roundw
      case rel=>exact⟨kk+1,by omega,by go_num,HREL.out⟩
      case measure=>simp[intOf];omega
     refine⟨?_,?_⟩
     ·refine jM 0 1 ?_
      intro y w9 p hlo hhi hW hD K hK
      clear hD
      generalize hAA:jE y _ _=AA at hK⊢
      simp only[jE,Act.put,zq1,zq2,zq3,zq4,zq5,IsP] at hAA
      subst hAA
      simp only[zq4,zq5,IsP] at hK
      refine jL ?_
      go_simp
      exact hK _ _ _ rfl (jD.refl _) rfl
     refine⟨?_,?_⟩
     ·refine jM 0 1 ?_
      intro y w9 p hlo hhi hW hD K hK
      have dq:=jB (OcW.old hW (by omega) HROWG.out hgc) 5 _ rfl
      simp only[kB,zq4,zq5,IsP] at hD
      have h0:=hD.1
      clear hD
      generalize hAA:jE y _ _=AA at hK⊢
      simp only[jE,Act.put,zq1,zq2,zq3,zq4,zq5,IsP] at hAA
      subst hAA
      simp only[zq4,zq5,IsP] at hK
      simp only[h0] at hK⊢
      clear h0
      refine jL ?_
      go_simp
      exact hK _ _ _ rfl (jD.refl _) rfl
     refine⟨?_,?_⟩
     ·refine jM 0 0 ?_
      intro y w9 p hlo hhi hW hD K hK
      clear hD
      generalize hAA:jE y _ _=AA at hK⊢
      simp only[jE,Act.put,zq1,zq2,zq3,zq4,zq5,IsP] at hAA
      subst hAA
      simp only[zq4,zq5,IsP] at hK
      refine jL ?_
      go_simp
      exact hK _ _ _ rfl (jD.refl _) rfl
     refine⟨?_,?_⟩
     ·refine jM 0 0 ?_
      intro y w9 p hlo hhi hW hD K hK
      obtain rfl:p=0:=by omega
      have db5:=jD.cell (show jD wr w9 from hW) b5
      simp only[kB,zq4,zq5,IsP] at hD
      have h2:=hD.1
      clear hD
      generalize hAA:jE y _ _=AA at hK⊢
      simp only[jE,Act.put,zq1,zq2,zq3,zq4,zq5,IsP] at hAA
      subst hAA
      simp only[zq4,zq5,IsP] at hK
      simp only[h2] at hK⊢
      clear h2
      refine jL ?_
      go_simp
      exact hK _ _ _ rfl (jD.refl _) rfl
     refine⟨?_,?_⟩
     ·refine jM 0 0 ?_
      intro y w9 p hlo hhi hW hD K hK
      clear hD
      generalize hAA:jE y _ _=AA at hK⊢
      simp only[jE,Act.put,zq1,zq2,zq3,zq4,zq5,IsP] at hAA
      subst hAA
      simp only[zq4,zq5,IsP] at hK
      refine jL ?_
      go_simp
      exact hK _ _ _ rfl (jD.refl _) rfl
     refine⟨?_,?_⟩
     ·refine jM 0 0 ?_
      intro y w9 p hlo hhi hW hD K hK
      simp only[kB,zq4,zq5,IsP] at hD
      have h2:=hD.1
      have h3:=hD.2.1
      have h4:=hD.2.2.1
      clear hD
      generalize hAA:jE y _ _=AA at hK⊢
      simp only[jE,Act.put,zq1,zq2,zq3,zq4,zq5,IsP] at hAA
      subst hAA
      simp only[zq4,zq5,IsP] at hK
      simp only[h2,h3,h4] at hK⊢
      clear h2 h3 h4
      refine jL ?_
      go_simp
      exact hK _ _ _ rfl (jD.refl _) rfl
     refine⟨?_,?_⟩
     ·refine jM 0 0 ?_
      intro y w9 p hlo hhi hW hD K hK
      obtain rfl:p=0:=by omega
      have de0:=jD.cell (show jD wr w9 from hW) e0
      have de1:=jD.cell (show jD wr w9 from hW) e1
      have de2:=jD.cell (show jD wr w9 from hW) e2
      have de3:=jD.cell (show jD wr w9 from hW) e3
      have de4:=jD.cell (show jD wr w9 from hW) e4
      have de5:=jD.cell (show jD wr w9 from hW) e5
      simp only[kB,zq4,zq5,IsP] at hD
      have h2:=hD.1
      have h3:=hD.2.1
      have h4:=hD.2.2.1
      have h5:=hD.2.2.2.1
      clear hD
      generalize hAA:jE y _ _=AA at hK⊢
      simp only[jE,Act.put,zq1,zq2,zq3,zq4,zq5,IsP] at hAA
      subst hAA
      simp only[zq4,zq5,IsP] at hK
      simp only[h2,h3,h4,h5] at hK⊢
      clear h2 h3 h4 h5
      refine jL ?_
      go_simp
      exact hK _ _ _ rfl (jD.refl _) rfl
     refine⟨?_,?_⟩
     ·refine jM 0 0 ?_
      intro y w9 p hlo hhi hW hD K hK
      clear hD
      generalize hAA:jE y _ _=AA at hK⊢
      simp only[jE,Act.put,zq1,zq2,zq3,zq4,zq5,IsP] at hAA
      subst hAA
      simp only[zq4,zq5,IsP] at hK
      refine jL ?_
      go_simp
      exact hK _ _ _ rfl (jD.refl _) rfl
     refine⟨?_,?_⟩
     ·refine jS 0 rfl ?_
      intro y w9 hW hD K hK
      have hW0:jD wr w9:=hW
      simp only[kB,zq4,zq5,IsP] at hD
      have h2:=hD.1
      have h3:=hD.2.1
      have h4:=hD.2.2.1
      have h5:=hD.2.2.2.1
      have h6:=hD.2.2.2.2.1
      have h7:=hD.2.2.2.2.2.1
      clear hD
      generalize hAA:jE y _ _=AA at hK⊢
      simp only[jE,Act.put,zq1,zq2,zq3,zq4,zq5,IsP] at hAA
      subst hAA
      simp only[zq4,zq5,IsP] at hK
      simp only[h2,h3,h4,h5,h6,h7] at hK⊢
      clear h2 h3 h4 h5 h6 h7
      refine jL ?_
      go_simp
      refine (HIH.out x HXS.out _ w9 Sk c0 ((HOX.out w9 (Moved.of_grew hW0))) (fun q hq=>⟨Nat.lt_of_lt_of_le (HSK.out q hq).1 (Nat.le_trans HWS.out hW0.size),(HSK.out q hq).2⟩) HFX.out HSX.out HCX.out (hW0.heap HCBR.out)).mono ?_
      rintro r w4 ⟨yv,rfl,hox,hm4,hc4⟩
      exact hK _ _ _ rfl trivial ⟨(Moved.of_grew hW0).trans' hm4,hc4⟩ ⟨_,hox.base hW0.size,fun q hq=>⟨Nat.le_trans hW0.size hq.1,hq.2⟩⟩
     refine⟨?_,?_⟩
     ·refine jM 1 1 ?_
      intro y w9 p hlo hhi hW hD K hK
      obtain rfl:p=1:=by omega
      simp only[kB,zq4,zq5,IsP] at hD
      have h2:=hD.1
      have h3:=hD.2.1
      have h4:=hD.2.2.1
      have h5:=hD.2.2.2.1
      have h6:=hD.2.2.2.2.1
      have h7:=hD.2.2.2.2.2.1
      have h8:=hD.2.2.2.2.2.2.1
      clear hD
      generalize hAA:jE y _ _=AA at hK⊢
      simp only[jE,Act.put,zq1,zq2,zq3,zq4,zq5,IsP] at hAA
      subst hAA
      simp only[zq4,zq5,IsP] at hK
      simp only[h2,h3,h4,h5,h6,h7] at hK⊢
      clear h2 h3 h4 h5 h6 h7
      refine jL ?_
      have h8':∃Sx,yS w9 wr.heap.size (zM x c0).1 (y 8) Sx∧∀q,Sx q→wr.heap.size≤q∧q < w9.heap.size:=h8
      obtain⟨Sx,ho,hb⟩:=h8'
      obtain⟨rk,rn,ru,rs,ra4,rn4,rc4,ra5,rn5,rc5,e⟩:=ho.node6
      rw[e] at hK ho⊢
      go_simp
      exact hK _ _ _ rfl ((jD.refl _).alloc _) ⟨_,_,_,rfl,heap_alloc_new _ _,ho.grew ((jD.refl _).alloc _),fun q hq=>⟨(hb q hq).1,Nat.lt_of_lt_of_le (hb q hq).2 ((jD.refl w9).alloc _).size⟩⟩
     refine⟨?_,?_⟩
     ·refine jS 1 rfl ?_
      intro y w9 hW hD K hK
      have hW1:Moved (fun q=>q=cb) wr w9∧w9.heap[cb]? = some (YN (zM x c0).2):=hW
      simp only[kB,zq4,zq5,IsP] at hD
      have h0:=hD.1
      have h1:=hD.2.1
      have h2:=hD.2.2.1
      have h3:=hD.2.2.2.1
      have h4:=hD.2.2.2.2.1
      have h5:=hD.2.2.2.2.2.1
      have h6:=hD.2.2.2.2.2.2.1
      have h7:=hD.2.2.2.2.2.2.2.1
      have h8:=hD.2.2.2.2.2.2.2.2.1
      have h9:=hD.2.2.2.2.2.2.2.2.2.1
      clear hD
      generalize hAA:jE y _ _=AA at hK⊢
      simp only[jE,Act.put,zq1,zq2,zq3,zq4,zq5,IsP] at hAA
      subst hAA
      simp only[zq4,zq5,IsP] at hK
      simp only[h0,h1,h2,h3,h4,h5,h6,h7] at hK⊢
      clear h0 h1 h2 h3 h4 h5 h6 h7
      have h9':∃h xv Sx,y 9=.slice (some ⟨h,0,none⟩) 1 1∧w9.heap[h]? = some (rowN xv)∧yS w9 wr.heap.size (zM x c0).1 xv Sx∧∀q,Sx q→wr.heap.size≤q∧q < w9.heap.size:=h9
      obtain⟨hh,yv,Sx,hs9,hrh,hox,hSx⟩:=h9'
      rw[hs9] at hK⊢
      clear hs9
      refine jL ?_
      refine GK w9 _ _ rfl w6.heap.size _ vs4 rfl ⟨Moved.owns hW1.1 HQ1.out.1 (fun e he=>by have:=World.ownsRow.lt HQ1.out.1 e he;have:=HCW.out;omega),HQ1.out.2⟩ hh 1 yv rfl hrh hox.node6 (by have:=HL4.out;omega) (Nat.le_trans HQ4.out.size hW1.1.size) ?_
      intro v' w' ho hgr hnx
      exact hK _ _ _ rfl trivial ⟨(hW1.1.mono (fun _ _ e=>.inl e)).trans (Moved.of_grown hgr) (fun _ _ e=>.inr e),(Moved.of_grown hgr).heap hW1.2 (fun e=>HCL.out _ e.symm rfl)⟩ ⟨yv,Sx,w9,hW1.1,hox,hSx,ho,Moved.of_grown hgr,hnx⟩
     refine⟨?_,?_⟩
     ·refine jM 2 2 ?_
      intro y w9 p hlo hhi hW hD K hK
      simp only[kB,zq4,zq5,IsP] at hD
      have h0:=hD.1
      have h1:=hD.2.1
      have h2:=hD.2.2.1
      have h3:=hD.2.2.2.1
      have h4:=hD.2.2.2.2.1
      have h5:=hD.2.2.2.2.2.1
      have h6:=hD.2.2.2.2.2.2.1
      have h7:=hD.2.2.2.2.2.2.2.1
      have h8:=hD.2.2.2.2.2.2.2.2.1
      have h9:=hD.2.2.2.2.2.2.2.2.2.1
      have h10:=hD.2.2.2.2.2.2.2.2.2.2.1
      clear hD
      generalize hAA:jE y _ _=AA at hK⊢
      simp only[jE,Act.put,zq1,zq2,zq3,zq4,zq5,IsP] at hAA
      subst hAA
      simp only[zq4,zq5,IsP] at hK
      simp only[h0,h1,h2,h3,h4,h5,h6,h7] at hK⊢
      clear h0 h1 h2 h3 h4 h5 h6 h7
      refine jL ?_
      go_simp
      exact hK _ _ _ rfl (jD.refl _) rfl
     refine⟨?_,?_⟩
     ·refine jS 2 rfl ?_
      intro y w9 hW hD K hK
      have hW2:Moved (fun q=>q=cb∨some q=(Value.slice ga kk gc).ownBlock) wr w9∧w9.heap[cb]? = some (YN (zM x c0).2):=hW
      have hr2:=hW2.1.heap HROWG.out (fun e=>e.elim hgc (fun e=>HGL.out _ e.symm rfl))
      have f5:=jF hr2 5
      have dc5:=jB hr2 5 _ rfl
      simp only[kB,zq4,zq5,IsP] at hD
      have h0:=hD.1
      have h1:=hD.2.1
      have h2:=hD.2.2.1
      have h3:=hD.2.2.2.1
      have h4:=hD.2.2.2.2.1
      have h5:=hD.2.2.2.2.2.1
      have h6:=hD.2.2.2.2.2.2.1
      have h7:=hD.2.2.2.2.2.2.2.1
      have h8:=hD.2.2.2.2.2.2.2.2.1
      have h9:=hD.2.2.2.2.2.2.2.2.2.1
      have h10:=hD.2.2.2.2.2.2.2.2.2.2.1
      have h11:=hD.2.2.2.2.2.2.2.2.2.2.2.1
      clear hD
      generalize hAA:jE y _ _=AA at hK⊢
      simp only[jE,Act.put,zq1,zq2,zq3,zq4,zq5,IsP] at hAA
      subst hAA
      simp only[zq4,zq5,IsP] at hK
      simp only[h0,h1,h2,h3,h4,h5,h6,h7,h11] at hK⊢
      clear h0 h1 h2 h3 h4 h5 h6 h7 h11
      have hz:∃xv Sx wa,Moved (fun q=>q=cb) wr wa∧yS wa wr.heap.size (zM x c0).1 xv Sx∧(∀q,Sx q→wr.heap.size≤q∧q < wa.heap.size)∧qA w9 w6.heap.size (y 10) (vs4++[xv])∧Moved (fun k=>some k=(Value.slice ga kk gc).ownBlock) wa w9∧yP wa (Value.slice ga kk gc).ownBlock (y 10).ownBlock:=h10
      clear h10
      obtain⟨xv,Sx,wa,q1,q2,q3,q4,q5,q6⟩:=hz
      obtain⟨va3,vc3,hv3,_,_,_⟩:=jR q4.1
      rw[List.length_append,HL4.out] at hv3
      simp only[List.length_cons,List.length_nil,Nat.zero_add] at hv3
      rw[hv3] at hK q4 q6⊢
      clear hv3
      refine jL ?_
      go_simp
      have hrw:=heap_setCell_same w9 g 5 _ _ (.slice va3 (kk+1) vc3) hr2
      have hI:OcI w6 (w9.setCell ⟨g,5,none⟩ (.slice va3 (kk+1) vc3)) g cb k n u s2 (.slice va keys.length vc) (zT (l.take (kk+1)) c2).1 (kk+1) (zT (l.take (kk+1)) c2).2:=by
       refine⟨va3,vc3,by simpa [rJ] using hrw,?_,?_⟩
       ·rw[HX.out]
        exact KD.fieldC HGW6.out HCW.out vs4 S4 HQ2.out HQ1.out HQ3.out HQ4.out q1 q2 q3 q4 q5 q6
       ·rw[HX.out]
        exact (z8 w9 g 5 _).heap hW2.2 hcg
      exact hK _ undef _ rfl trivial hI trivial
     trivial
    ·have ek:kk=l.length:=by omega
     subst ek
     have o0:=jB HROWG.out 0 _ rfl
     have o1:=jB HROWG.out 1 _ rfl
     have o2:=jB HROWG.out 2 _ rfl
     have o3:=jB HROWG.out 3 _ rfl
     have o4:=jB HROWG.out 4 _ rfl
     have o5:=jB HROWG.out 5 _ rfl
     have r0:=jF HRX.out 0
     have r1:=jF HRX.out 1
     have r2:=jF HRX.out 2
     have r3:=jF HRX.out 3
     have r4:=jF HRX.out 4
     have r5:=jF HRX.out 5
     have z0:=jB HRX.out 0 _ rfl
     have z1:=jB HRX.out 1 _ rfl
     have z2:=jB HRX.out 2 _ rfl
     have z3:=jB HRX.out 3 _ rfl
     have z4:=jB HRX.out 4 _ rfl
     have z5:=jB HRX.out 5 _ rfl
     have hne:¬g=N+1:=by have:=hgNe.out;omega
     have hne2:¬N+1=g:=by have:=hgNe.out;omega
     have HFIN:Hid (yS (qB wr (N+1) (.int .i64 k) (.int .i64 n) (.int .u64 u) (.string s2) (.slice va keys.length vc) (.slice ga l.length gc)) w.heap.size (zM (.mk k n u s keys l) c).1 (.agg #[.int .i64 k,.int .i64 n,.int .u64 u,.string s2,.slice va keys.length vc,.slice ga l.length gc]) (KC w (qB wr (N+1) (.int .i64 k) (.int .i64 n) (.int .u64 u) (.string s2) (.slice va keys.length vc) (.slice ga l.length gc)))∧Moved (fun q=>q=cb) w (qB wr (N+1) (.int .i64 k) (.int .i64 n) (.int .u64 u) (.string s2) (.slice va keys.length vc) (.slice ga l.length gc))∧(qB wr (N+1) (.int .i64 k) (.int .i64 n) (.int .u64 u) (.string s2) (.slice va keys.length vc) (.slice ga l.length gc)).heap[cb]? = some (YN (zM (.mk k n u s keys l) c).2)):=by
      have h1:=HN.out
      have h2:=hgN.out
      have h3:=hcbN.out
      have h5:=HGW6.out
      have h6:=HCW.out
      have hT:=vR wr (N+1) (.int .i64 k) (.int .i64 n) (.int .u64 u) (.string s2) (.slice va keys.length vc) (.slice ga l.length gc)
      have h4:N+1 < w6.heap.size:=(Array.getElem?_eq_some_iff.1 HB26.out).1
      rw[List.take_length] at hgrow HCBR
      have hg2:=(hgrow.wider (T:=fun q=>(q=g∨q=cb)∨q=N+1) (fun _ h=>.inl h)).kept hT (fun q hq=>by omega) (fun _ h=>.inr h)
      have hkvW:zE (qB wr (N+1) (.int .i64 k) (.int .i64 n) (.int .u64 u) (.string s2) (.slice va keys.length vc) (.slice ga l.length gc)) w.heap.size (.slice va keys.length vc) (qU keys c1):=y9 (Moved.owns hT (Moved.owns HMV.out HKV6.out (fun q hq e=>by have h7:=(World.ownsRow.lt HKV6.out q hq).1;rcases e with rfl | rfl;exact HKG.out _ hq rfl;omega)) (fun q hq e=>by have:=(World.ownsRow.lt HKV6.out q hq).1;omega)) (by omega)
      have hkvl:∀q,(Value.slice va keys.length vc).ownBlock=some q→q < w6.heap.size:=fun q hq=>(World.ownsRow.lt HKV6.out q hq).2
      have hsz6:w.heap.size≤w6.heap.size:=HM6.out.size
      rw[HT.out]
      refine⟨?_,?_,?_⟩
      ·exact KD.tree hg2 ⟨HB.out.1,HB.out.2.1,HB.out.2.2.1,HS2.out,HKZ2.out⟩ hsz6 hkvW hkvl
      ·exact HMR.out.trans hT (fun j hj e=>by omega)
      ·exact hT.heap HCBR.out (by omega)
     clear hgrow HIH HK HF3 HSZ HKS hkz HROW6 HB16 HB26 HG3 kY HKEEP HCBR HKV6
     go_wp2_with fail
     refine bodyPost_ret (v:=.agg #[.int .i64 k,.int .i64 n,.int .u64 u,.string s2,.slice va keys.length vc,.slice ga l.length gc]) (by simp[results,results21,go_sem,z0,z1,z2,z3,z4,z5,hne,hne2]) rfl ?_
     exact⟨_,rfl,HFIN.out.1,HFIN.out.2.1,HFIN.out.2.2⟩):p:=h
theorem GL (B cb:Nat):∀(m:Nat) (t:Tr),t.size≤m→∀(v:Value) (w:World) (S:Nat→Prop) (c:Nat),yS w B t v S→(∀g,S g→g < w.heap.size∧g≠cb)→Few t→smT 1000 t→c+4097*t.size≤1000000000→w.heap[cb]? = some (YN c) →
 Calls prog 21 #[v,jI cb] w fun r w'=>∃v',r=.returned v'∧yS w' w.heap.size (zM t c).1 v' (KC w w')∧Moved (fun q=>q=cb) w w'∧w'.heap[cb]? = some (YN (zM t c).2):=by
 intro m
 induction m with
 | zero=>intro t ht;have:=t.size_pos;omega
 | succ m ih=>
 intro t ht v w S c ho hS hf hsm hc hcb
 have hn:=ho.node
 obtain⟨k,n,u,s,keys,l⟩:=t
 simp only[yS] at ho
 obtain⟨hb0,kv,lv,vs,S',rfl,hks0,hrows0,hS1,hS2,hS3,hS4,hkids0⟩:=ho
 have hks:=hks0.strs hb0.2.2.2.2
 have yZ:=hrows0.rows
 have qP:=hkids0.kids
 have hb:qH k∧qH n∧vT u∧kF s.size:=⟨hb0.1,hb0.2.1,hb0.2.2.1,hb0.2.2.2.1⟩
 have HKEEP:Hid (∀wr,Moved (fun q=>q=cb) w wr→qA wr B lv vs∧k9 wr B l vs S'):=fun wr hm=>⟨⟨Moved.owns hm hrows0.1 (fun g hg e=>(hS g (hS2 g hg).1).2 e),hrows0.2⟩,hkids0.kept hm (fun g hg e=>(hS g (hS4 g hg)).2 e)⟩
 have HS:Hid (∀q,S' q→q < w.heap.size∧q≠cb):=fun q hq=>hS q (hS4 q hq)
 have HSM:=zh hsm
 have HCC:=zh hc
 have HCB:=zh hcb
 have hcbN:Hid (cb < w.heap.size):=(Array.getElem?_eq_some_iff.1 hcb).1
 have HIH:=zh ih
 clear ih hn hb0 hks0 hrows0 hS1 hS2 hS3 hS4 hkids0 hS hsm hc hcb
 simp only[Few] at hf
 obtain⟨hf1,hf2,hf3⟩:=hf
 have hkl:vs.length=l.length:=qP.length
 have HKS:=zh hks
 have HK:=zh qP
 have HF3:=zh hf3
 have HB:=zh hb
 obtain⟨a4,c4,rfl,hx1,hx2,hx3,hx4⟩:=hks
 clear hx1 hx2 hx3 hx4
 have kY:=zh yZ
 obtain⟨a5,c5,rfl,hx1,hc5,hx3,hx4⟩:=yZ
 clear hx1 hx3 hx4
 rw[hkl] at kY⊢
 have hkz:Hid (∀x∈keys,kF x.size):=fun x hx=>by
  obtain⟨_,_,_,_,_,_,h⟩:=HKS.out
  obtain⟨i,hi,rfl⟩:=List.mem_iff_getElem.1 hx
  exact (h i _ (List.getElem?_eq_getElem hi)).1
 have hsz:∀x∈l,x.size≤m:=fun x hx=>by have:=yA hx;simp only[Tr.size] at ht;omega
 have HSZ:=zh hsz
 clear qP hf3 hb hsz ht hkl hc5
 have HF1:Hid (keys.length≤4096):=hf1
 have HF2:Hid (l.length≤4096):=hf2
 go_enter func21,ntmps21
 go_upto_region 1 with fail
 have hb1:=heap_alloc_new w (.cells #[.int .i64 k,.int .i64 n,.int .u64 u,.string s,.slice a4 keys.length c4,.slice a5 l.length c5] 26)
 have hg1:=(jD.refl w).alloc (.cells #[.int .i64 k,.int .i64 n,.int .u64 u,.string s,.slice a4 keys.length c4,.slice a5 l.length c5] 26)
 have hs1:(w.alloc (.cells #[.int .i64 k,.int .i64 n,.int .u64 u,.string s,.slice a4 keys.length c4,.slice a5 l.length c5] 26)).heap.size=w.heap.size+1:=World.size_alloc _ _
 generalize (w.alloc (.cells #[.int .i64 k,.int .i64 n,.int .u64 u,.string s,.slice a4 keys.length c4,.slice a5 l.length c5] 26))=w1 at *
 have hb2:=heap_alloc_new w1 (.cells #[.int .i64 0,.int .i64 0,.int .u64 0,.string ⟨#[]⟩,.slice none 0 0,.slice none 0 0] 26)
 have hg2:=(jD.refl w1).alloc (.cells #[.int .i64 0,.int .i64 0,.int .u64 0,.string ⟨#[]⟩,.slice none 0 0,.slice none 0 0] 26)
 have hs2:(w1.alloc (.cells #[.int .i64 0,.int .i64 0,.int .u64 0,.string ⟨#[]⟩,.slice none 0 0,.slice none 0 0] 26)).heap.size=w1.heap.size+1:=World.size_alloc _ _
 rw[hs1] at hb2 hs2
 skip
 generalize (w1.alloc (.cells #[.int .i64 0,.int .i64 0,.int .u64 0,.string ⟨#[]⟩,.slice none 0 0,.slice none 0 0] 26))=w2 at *
 replace hb1:=hg2.heap hb1
 have hG:=hg1.trans hg2
 have hs2':w2.heap.size=w.heap.size+2:=by omega
 obtain⟨N,hN⟩:∃N,w.heap.size=N:=⟨_,rfl⟩
 rw[hN] at hb1 hb2 hs2'⊢
 have hB2:Hid (N+2≤w2.heap.size):=by show _≤_;omega
 have c0:=jB hb1 0 _ rfl
 have c1:=jB hb1 1 _ rfl
 have c2:=jB hb1 2 _ rfl
 have c3:=jB hb1 3 _ rfl
 have c4':=jB hb1 4 _ rfl
 have HB1:=zh hb1
 have HB2:=zh hb2
 have HG:=zh hG
 have HS2:=zh hs2'
 have HN:=zh hN
 clear hb1 hb2 hG hs1 hs2 hs2' hg1 hg2 hN
 rw[HN.out] at hcbN
 refine vG jD [[],[0],[],[2],[],[4],[],[6],[],[8],[9],[1,3,5,7,10],[],[11,12]] [[(10,2),(11,3),(12,4),(13,5),(14,6),(15,7),(16,8),(17,9),(18,10),(19,11),(5,12)],[(8,0),(10,2),(11,3),(12,4),(13,5),(14,6),(15,7),(16,8),(17,9),(18,10),(5,12)],[(8,0),(9,1),(12,4),(13,5),(14,6),(15,7),(16,8),(17,9),(18,10),(19,11),(5,12)],[(8,0),(9,1),(10,2),(12,4),(13,5),(14,6),(15,7),(16,8),(17,9),(18,10),(5,12)],[(8,0),(9,1),(10,2),(11,3),(14,6),(15,7),(16,8),(17,9),(18,10),(19,11),(5,12)],[(8,0),(9,1),(10,2),(11,3),(12,4),(14,6),(15,7),(16,8),(17,9),(18,10),(5,12)],[(8,0),(9,1),(10,2),(11,3),(12,4),(13,5),(16,8),(17,9),(18,10),(19,11),(5,12)],[(8,0),(9,1),(10,2),(11,3),(12,4),(13,5),(14,6),(16,8),(17,9),(18,10),(5,12)],[(8,0),(9,1),(10,2),(11,3),(12,4),(13,5),(14,6),(15,7),(18,10),(19,11),(5,12)],[(8,0),(9,1),(10,2),(11,3),(12,4),(13,5),(14,6),(15,7),(16,8),(19,11),(5,12)],[(8,0),(9,1),(10,2),(11,3),(12,4),(13,5),(14,6),(15,7),(16,8),(17,9),(5,12)],[(8,0),(9,1),(10,2),(11,3),(12,4),(13,5),(14,6),(15,7),(16,8),(17,9),(18,10),(5,12)],[(8,0),(9,1),(10,2),(11,3),(12,4),(13,5),(14,6),(15,7),(16,8),(17,9),(18,10),(19,11)],[(8,0),(9,1),(10,2),(11,3),(12,4),(13,5),(14,6),(15,7),(16,8),(17,9),(18,10),(19,11),(5,12)]]
  [Is (.pointer (some ⟨N,0,none⟩)),Is (.int .i64 k),Is (.pointer (some ⟨N,1,none⟩)),Is (.int .i64 n),Is (.pointer (some ⟨N,2,none⟩)),Is (.int .u64 u),Is (.pointer (some ⟨N,3,none⟩)),Is (.string s),Is (.pointer (some ⟨N,4,none⟩)),Is (.slice a4 keys.length c4),fun v w=>zE w (N+2) v keys,fun v w=>∃kv',v=.agg #[.int .i64 k,.int .i64 n,.int .u64 u,.string s,kv',.slice none 0 0]∧zE w (N+2) kv' keys,fun v w=>∃g,v=.pointer (some ⟨g,0,none⟩)∧(N+2)≤g∧w.heap[g]? = some (.cells #[.int .i64 0,.int .i64 0,.int .u64 0,.string ⟨#[]⟩,.slice none 0 0,.slice none 0 0] 26)]
  zk jD.trans jD.refl (jD.refl _).drew zk ⟨jN,jN,jN,jN,jN,jN,jN,jN,jN,jN,fun _ _ _ hg h=>zE.grew h hg,fun _ _ _ hg h=>h.elim fun q h=>⟨q,h.1,zE.grew h.2 hg⟩,fun _ _ _ hg h=>h.elim fun q h=>⟨q,h.1,h.2.1,hg.heap h.2.2⟩,trivial⟩ rfl ⟨?_,?_,?_,?_,?_,?_,?_,?_,?_,?_,?_,?_,?_,trivial⟩ ?_ rfl
 ·intro y w2' hG hD K hK
  simp only[jE,Act.put,zq1,zq2,zq3,zq4,zq5,Is] at hK⊢
  refine jL ?_
  go_simp
  exact hK _ _ _ rfl (jD.refl _) rfl
 ·intro y w2' hG hD K hK
  simp only[jY,zq4,zq5,Is,and_true] at hD
  have h0:=hD
  clear hD
  have dc0:=hG.cell c0
  have dc1:=hG.cell c1
  have dc2:=hG.cell c2
  have dc3:=hG.cell c3
  have dc4':=hG.cell c4'
  simp only[jE,Act.put,zq1,zq2,zq3,zq4,zq5,Is] at hK⊢
  rw[h0] at hK⊢
  clear h0
  refine jL ?_
  go_simp
  exact hK _ _ _ rfl (jD.refl _) rfl
 ·intro y w2' hG hD K hK
  simp only[jE,Act.put,zq1,zq2,zq3,zq4,zq5,Is] at hK⊢
  refine jL ?_
  go_simp
  exact hK _ _ _ rfl (jD.refl _) rfl
 ·intro y w2' hG hD K hK
  simp only[jY,zq4,zq5,Is,and_true] at hD
  have h2:=hD
  clear hD
  have dc0:=hG.cell c0
  have dc1:=hG.cell c1
  have dc2:=hG.cell c2
  have dc3:=hG.cell c3
  have dc4':=hG.cell c4'
  simp only[jE,Act.put,zq1,zq2,zq3,zq4,zq5,Is] at hK⊢
  rw[h2] at hK⊢
  clear h2
  refine jL ?_
  go_simp
  exact hK _ _ _ rfl (jD.refl _) rfl
 ·intro y w2' hG hD K hK
  simp only[jE,Act.put,zq1,zq2,zq3,zq4,zq5,Is] at hK⊢
  refine jL ?_
  go_simp
  exact hK _ _ _ rfl (jD.refl _) rfl
 ·intro y w2' hG hD K hK
  simp only[jY,zq4,zq5,Is,and_true] at hD
  have h4:=hD
  clear hD
  have dc0:=hG.cell c0
  have dc1:=hG.cell c1
  have dc2:=hG.cell c2
  have dc3:=hG.cell c3
  have dc4':=hG.cell c4'
  simp only[jE,Act.put,zq1,zq2,zq3,zq4,zq5,Is] at hK⊢
  rw[h4] at hK⊢
  clear h4
  refine jL ?_
  go_simp
  exact hK _ _ _ rfl (jD.refl _) rfl
 ·intro y w2' hG hD K hK
  simp only[jE,Act.put,zq1,zq2,zq3,zq4,zq5,Is] at hK⊢
  refine jL ?_
  go_simp
  exact hK _ _ _ rfl (jD.refl _) rfl
 ·intro y w2' hG hD K hK
  simp only[jY,zq4,zq5,Is,and_true] at hD
  have h6:=hD
  clear hD
  have dc0:=hG.cell c0
  have dc1:=hG.cell c1
  have dc2:=hG.cell c2
  have dc3:=hG.cell c3
  have dc4':=hG.cell c4'
  simp only[jE,Act.put,zq1,zq2,zq3,zq4,zq5,Is] at hK⊢
  rw[h6] at hK⊢
  clear h6
  refine jL ?_
  go_simp
  exact hK _ _ _ rfl (jD.refl _) rfl
 ·intro y w2' hG hD K hK
  simp only[jE,Act.put,zq1,zq2,zq3,zq4,zq5,Is] at hK⊢
  refine jL ?_
  go_simp
  exact hK _ _ _ rfl (jD.refl _) rfl
 ·intro y w2' hG hD K hK
  simp only[jY,zq4,zq5,Is,and_true] at hD
  have h8:=hD
  clear hD
  have dc0:=hG.cell c0
  have dc1:=hG.cell c1
  have dc2:=hG.cell c2
  have dc3:=hG.cell c3
  have dc4':=hG.cell c4'
  simp only[jE,Act.put,zq1,zq2,zq3,zq4,zq5,Is] at hK⊢
  rw[h8] at hK⊢
  clear h8
  refine jL ?_
  go_simp
  exact hK _ _ _ rfl (jD.refl _) rfl
 ·intro y w2' hG hD K hK
  simp only[jY,zq4,zq5,Is,and_true] at hD
  have h9:=hD
  clear hD
  simp only[jE,Act.put,zq1,zq2,zq3,zq4,zq5,Is] at hK⊢
  rw[h9] at hK⊢
  clear h9
  refine jL ?_
  go_simp
  refine (lV _ _ _ (HKS.out.grew (HG.out.trans hG)) (by omega)).mono ?_
  rintro r w3 ⟨v',rfl,hv,hg⟩
  exact hK _ _ _ rfl hg (y9 hv (Nat.le_trans hB2.out hG.size))
 ·intro y w2' hG hD K hK
  simp only[jY,zq4,zq5,Is,and_true] at hD
  have h1:=hD.1
  have h3:=hD.2.1
  have h5:=hD.2.2.1
  have h7:=hD.2.2.2.1
  have h10:=hD.2.2.2.2
  clear hD
  simp only[jE,Act.put,zq1,zq2,zq3,zq4,zq5,Is] at hK⊢
  rw[h1,h3,h5,h7] at hK⊢
  clear h1 h3 h5 h7
  refine jL ?_
  refine Exists.elim (jR h10) fun va h=>Exists.elim h fun vc h=>?_
  have hs:=h.1
  clear h
  rw[hs] at hK h10⊢
  go_simp
  exact hK _ _ _ rfl (jD.refl _) ⟨_,rfl,h10⟩
 ·intro y w2' hG hD K hK
  simp only[jE,Act.put,zq1,zq2,zq3,zq4,zq5,Is] at hK⊢
  refine jL ?_
  go_simp
  exact hK _ _ _ rfl ((jD.refl _).alloc _) ⟨_,rfl,Nat.le_trans hB2.out hG.size,heap_alloc_new _ _⟩
 ·intro y w2' hG hF K hK
  simp only[yG,Is,and_true,Nat.reduceAdd] at hF
  have h0:=hF.1
  have h1:=hF.2.1
  have h2:=hF.2.2.1
  have h3:=hF.2.2.2.1
  have h4:=hF.2.2.2.2.1
  have h5:=hF.2.2.2.2.2.1
  have h6:=hF.2.2.2.2.2.2.1
  have h7:=hF.2.2.2.2.2.2.2.1
  have h8:=hF.2.2.2.2.2.2.2.2.1
  have h9:=hF.2.2.2.2.2.2.2.2.2.1
  have h10:=hF.2.2.2.2.2.2.2.2.2.2.1
  have h11:=hF.2.2.2.2.2.2.2.2.2.2.2.1
  have h12:=hF.2.2.2.2.2.2.2.2.2.2.2.2
  clear hF
  simp only[JH]
  simp only[jE,Act.put,zq1,zq2,zq3,zq4,zq5,Is] at hK⊢
  rw[h0,h1,h2,h3,h4,h5,h6,h7,h8,h9]
  clear h0 h1 h2 h3 h4 h5 h6 h7 h8 h9
  refine jL ?_
  refine Exists.elim h11 fun kv' h=>?_
  have hs11:=h.1
  have hkv:=h.2
  refine Exists.elim (jR hkv) fun va h=>Exists.elim h fun vc h=>?_
  have hs:=h.1
  rw[hs] at hkv hs11
  clear h h11 hs h10
  refine Exists.elim h12 fun g h=>?_
  have hs12:=h.1
  have hgB:=h.2.1
  have jJ:=h.2.2
  clear h h12
  rw[hs11,hs12]
  clear hs11 hs12
  have f0:=jF jJ 0
  have f1:=jF jJ 1
  have f2:=jF jJ 2
  have f3:=jF jJ 3
  have f4:=jF jJ 4
  have f5:=jF jJ 5
  have d0:=jB jJ 0 _ rfl
  have d1:=jB jJ 1 _ rfl
  have d2:=jB jJ 2 _ rfl
  have d3:=jB jJ 3 _ rfl
  have d4:=jB jJ 4 _ rfl
  have d5:=jB jJ 5 _ rfl
  have hrow2:=d8 jJ (.int .i64 k) (.int .i64 n) (.int .u64 u) (.string s) (.slice va keys.length vc) (.slice none 0 0)
  have hmv:=vR w2' g (.int .i64 k) (.int .i64 n) (.int .u64 u) (.string s) (.slice va keys.length vc) (.slice none 0 0)
  have hkv2:zE _ (N+2) (.slice va keys.length vc) keys:=Moved.owns hmv hkv (fun q hq e=>vW hkv jJ (by decide) (by rw[hq,e]))
  have hgr:=Moved.fresh hG hmv (fun q e=>by have:=HS2.out;omega)
  clear hG jJ hmv hkv
  go_simp
  refine hK _ _ ?_
  clear f0 f1 f2 f3 f4 f5 d0 d1 d2 d3 d4 d5 hK
  generalize ((((((w2'.setCell ⟨g,0,none⟩ (.int .i64 k)).setCell ⟨g,1,none⟩ (.int .i64 n)).setCell ⟨g,2,none⟩ (.int .u64 u)).setCell ⟨g,3,none⟩ (.string s)).setCell ⟨g,4,none⟩ (.slice va keys.length vc)).setCell ⟨g,5,none⟩ (.slice none 0 0))=w3 at *
  have K7:=zh hrow2
  have HKV:=zh hkv2
  have HB1':=zh (hgr.heap HB1.out)
  have HB2':=zh (hgr.heap HB2.out)
  have HG3:=zh (HG.out.trans hgr)
  clear hrow2 hkv2 HB1 HB2 HG c0 c1 c2 c3 c4'
  have hgN:Hid (N+2≤g):=hgB
  clear hgB
  generalize y 10=y10
  have HCB3:Hid (w3.heap[cb]? = some (YN c)):=HG3.out.heap HCB.out
  have hgNe:Hid (N+2≤g):=hgN
  have b0:=jB HB1'.out 0 _ rfl
  by_cases hk5:5≤k∧k≤6
  ·obtain⟨hk1,hk2⟩:=hk5
   have HK56:Hid (5≤k∧k≤6):=⟨hk1,hk2⟩
   have rc:=jB HCB3.out 0 _ rfl
   have rf:=jF HCB3.out 0
   have hwc:IntKind.i64.wrap ((c:Int)+1)=(c:Int)+1:=by rw[IntKind.wrap_i64];have:=HCC.out;omega
   have hmc:=z8 w3 cb 0 (.int .i64 ((c:Int)+1))
   have HCBA:Hid ((w3.setCell ⟨cb,0,none⟩ (.int .i64 ((c:Int)+1))).heap[cb]? = some (YN (c+1))):=oN HCB3.out
   have HROWA:Hid ((w3.setCell ⟨cb,0,none⟩ (.int .i64 ((c:Int)+1))).heap[g]? = _):=hmc.heap K7.out (by have:=hgNe.out;have:=hcbN.out;omega)
   have HBA:Hid ((w3.setCell ⟨cb,0,none⟩ (.int .i64 ((c:Int)+1))).heap[N]? = _):=hmc.heap HB1'.out (by have:=hcbN.out;omega)
   have HZA:Hid ((w3.setCell ⟨cb,0,none⟩ (.int .i64 ((c:Int)+1))).heap[N+1]? = _):=hmc.heap HB2'.out (by have:=hcbN.out;omega)
   have HKVA:Hid (zE (w3.setCell ⟨cb,0,none⟩ (.int .i64 ((c:Int)+1))) (N+2) (.slice va keys.length vc) keys):=Moved.owns hmc HKV.out (fun q hq e=>by have:=(World.ownsRow.lt HKV.out q hq).1;have:=hcbN.out;omega)
   have HMA:Hid (Moved (fun q=>q=cb) w (w3.setCell ⟨cb,0,none⟩ (.int .i64 ((c:Int)+1)))):=(Moved.of_grew HG3.out).trans' hmc
   clear hmc
   go_wp2_with fail
   generalize w3.setCell ⟨cb,0,none⟩ (.int .i64 ((c:Int)+1))=wa at *
   clear rc rf b0
   have b3:=jB HBA.out 3 _ rfl
   have rc:=oO HCBA.out
   refine vG jD [[],[0],[1],[],[3],[4],[5],[2,6],[],[7,8]] [[(36,2),(37,3),(38,4),(39,5),(40,6),(41,7),(42,8)],[(34,0),(37,3),(38,4),(39,5),(40,6),(41,7),(42,8)],[(34,0),(35,1),(37,3),(38,4),(39,5),(40,6),(42,8)],[(34,0),(35,1),(36,2),(39,5),(40,6),(41,7),(42,8)],[(34,0),(35,1),(36,2),(37,3),(40,6),(41,7),(42,8)],[(34,0),(35,1),(36,2),(37,3),(38,4),(41,7),(42,8)],[(34,0),(35,1),(36,2),(37,3),(38,4),(39,5),(42,8)],[(34,0),(35,1),(36,2),(37,3),(38,4),(39,5),(40,6),(42,8)],[(34,0),(35,1),(36,2),(37,3),(38,4),(39,5),(40,6),(41,7)],[(34,0),(35,1),(36,2),(37,3),(38,4),(39,5),(40,6),(41,7),(42,8)]]
    [Is (.pointer (some ⟨N,3,none⟩)),Is (.string s),Is (.string (s++⟨#[35]⟩)),Is (jI cb),Is (jI cb),Is (.int .i64 ((c:Int)+1)),Is (.string ⟨(Lib.repeatL [105] (c+1)).toArray⟩),Is (.string (vE s (c+1))),Is (.pointer (some ⟨g,3,none⟩))]
    zk jD.trans jD.refl (jD.refl _).drew zk ⟨jN,jN,jN,jN,jN,jN,jN,jN,jN,trivial⟩ rfl ⟨?_,?_,?_,?_,?_,?_,?_,?_,?_,trivial⟩ ?_ rfl
   ·intro y wk hG hD K hK
    simp only[jE,Act.put,zq1,zq2,zq3,zq4,zq5,Is] at hK⊢
    refine jL ?_
    go_simp
    exact hK _ _ _ rfl (jD.refl _) rfl
   ·intro y wk hG hD K hK
    simp only[jY,zq4,zq5,Is,and_true] at hD
    have h0:=hD
    clear hD
    have db3:=hG.cell b3
    have drc:=hG.cell rc
    simp only[jE,Act.put,zq1,zq2,zq3,zq4,zq5,Is] at hK⊢
    rw[h0] at hK⊢
    clear h0
    refine jL ?_
    go_simp
    exact hK _ _ _ rfl (jD.refl _) rfl
   ·intro y wk hG hD K hK
    simp only[jY,zq4,zq5,Is,and_true] at hD
    have h1:=hD
    clear hD
    simp only[jE,Act.put,zq1,zq2,zq3,zq4,zq5,Is] at hK⊢
    rw[h1] at hK⊢
    clear h1
    refine jL ?_
    go_simp
    rw[if_neg (by have:=HSM.out.1.1;omega)]
    go_simp
    exact hK _ _ _ rfl (jD.refl _) rfl
   ·intro y wk hG hD K hK
    simp only[jE,Act.put,zq1,zq2,zq3,zq4,zq5,Is] at hK⊢
    refine jL ?_
    go_simp
    exact hK _ _ _ rfl (jD.refl _) rfl
   ·intro y wk hG hD K hK
    simp only[jY,zq4,zq5,Is,and_true] at hD
    have h3:=hD
    clear hD
    simp only[jE,Act.put,zq1,zq2,zq3,zq4,zq5,Is] at hK⊢
    rw[h3] at hK⊢
    clear h3
    refine jL ?_
    go_simp
    exact hK _ _ _ rfl (jD.refl _) rfl
   ·intro y wk hG hD K hK
    simp only[jY,zq4,zq5,Is,and_true] at hD
    have h4:=hD
    clear hD
    have db3:=hG.cell b3
    have drc:=hG.cell rc
    simp only[jE,Act.put,zq1,zq2,zq3,zq4,zq5,Is] at hK⊢
    rw[h4] at hK⊢
    clear h4
    refine jL ?_
    go_simp
    exact hK _ _ _ rfl (jD.refl _) rfl
   ·intro y wk hG hD K hK
    simp only[jY,zq4,zq5,Is,and_true] at hD
    have h5:=hD
    clear hD
    simp only[jE,Act.put,zq1,zq2,zq3,zq4,zq5,Is] at hK⊢
    rw[h5] at hK⊢
    clear h5
    refine jL ?_
    go_simp
    refine (lR c (by have:=HCC.out;omega) wk).mono ?_
    rintro r w5 ⟨rfl,hg5⟩
    exact hK _ _ _ rfl hg5 rfl
   ·intro y wk hG hD K hK
    simp only[jY,zq4,zq5,Is,and_true] at hD
    have h2:=hD.1
    have h6:=hD.2
    clear hD
    simp only[jE,Act.put,zq1,zq2,zq3,zq4,zq5,Is] at hK⊢
    rw[h2,h6] at hK⊢
    clear h2 h6
    refine jL ?_
    go_simp
    rw[if_neg (by have:=HSM.out.1.1;have:=HCC.out;have h1:=KL (c+1);omega)]
    go_simp
    exact hK _ _ _ rfl (jD.refl _) rfl
   ·intro y wk hG hD K hK
    simp only[jE,Act.put,zq1,zq2,zq3,zq4,zq5,Is] at hK⊢
    refine jL ?_
    go_simp
    exact hK _ _ _ rfl (jD.refl _) rfl
   ·intro y wk hG hF K hK
    simp only[yG,Is,and_true,Nat.reduceAdd] at hF
    have h0:=hF.1
    have h1:=hF.2.1
    have h2:=hF.2.2.1
    have h3:=hF.2.2.2.1
    have h4:=hF.2.2.2.2.1
    have h5:=hF.2.2.2.2.2.1
    have h6:=hF.2.2.2.2.2.2.1
    have h7:=hF.2.2.2.2.2.2.2.1
    have h8:=hF.2.2.2.2.2.2.2.2
    clear hF
    simp only[JH]
    simp only[jE,Act.put,zq1,zq2,zq3,zq4,zq5,Is] at hK⊢
    rw[h0,h1,h2,h3,h4,h5,h6,h7,h8]
    clear h0 h1 h2 h3 h4 h5 h6 h7 h8
    refine jL ?_
    have hrg:=hG.heap HROWA.out
    have df3:=jF hrg 3
    have dc3:=jB hrg 3 _ rfl
    have hmg:=z8 wk g 3 (.string (vE s (c+1)))
    have hrw:=heap_setCell_same wk g 3 _ _ (.string (vE s (c+1))) hrg
    go_simp
    refine hK _ _ ?_
    have HROW5:Hid ((wk.setCell ⟨g,3,none⟩ (.string (vE s (c+1)))).heap[g]? = some (rJ k n u (vE s (c+1)) (.slice va keys.length vc) none 0 0)):=by show _=_;simpa [rJ] using hrw
    have HKV5:Hid (zE (wk.setCell ⟨g,3,none⟩ (.string (vE s (c+1)))) (N+2) (.slice va keys.length vc) keys):=Moved.owns hmg (zE.grew HKVA.out hG) (fun q hq e=>vW (zE.grew HKVA.out hG) hrg (by decide) (by rw[hq,e]))
    have HCB5:Hid ((wk.setCell ⟨g,3,none⟩ (.string (vE s (c+1)))).heap[cb]? = some (YN (c+1))):=hmg.heap (hG.heap HCBA.out) (by have:=hgNe.out;have:=hcbN.out;omega)
    have HM5:Hid (Moved (fun q=>q=cb) w (wk.setCell ⟨g,3,none⟩ (.string (vE s (c+1))))):=(HMA.out.grew hG).trans hmg (fun j hj e=>by have:=HN.out;have:=hgNe.out;omega)
    have HB15:Hid ((wk.setCell ⟨g,3,none⟩ (.string (vE s (c+1)))).heap[N]? = _):=hmg.heap (hG.heap HBA.out) (by have:=hgNe.out;omega)
    have HB25:Hid ((wk.setCell ⟨g,3,none⟩ (.string (vE s (c+1)))).heap[N+1]? = _):=hmg.heap (hG.heap HZA.out) (by have:=hgNe.out;omega)
    clear hrg df3 dc3 hmg hrw hG
    generalize wk.setCell ⟨g,3,none⟩ (.string (vE s (c+1)))=w5 at *
    obtain⟨s2,hs2⟩:∃s2,vE s (c+1)=s2:=⟨_,rfl⟩
    obtain⟨c1,hc1⟩:∃c1,c+1=c1:=⟨_,rfl⟩
    have HT:Hid (zM (.mk k n u s keys l) c=(.mk k n u s2 (qU keys c1) (zT l (c1+keys.length)).1,(zT l (c1+keys.length)).2)):=by show _=_;rw[← hs2,← hc1,zM,if_pos (And.intro HK56.out.1 HK56.out.2),if_pos (And.intro HK56.out.1 HK56.out.2)]
    have HS2:Hid (kF s2.size):=by show kF _;rw[← hs2,QZ];have:=HSM.out.1.1;have:=HCC.out;unfold kF;omega
    have HC1:Hid (c1+4096≤1000005000):=by show _≤_;have:=HCC.out;omega
    have HC2:Hid (c1+keys.length+4097*kV l≤1000000000):=by show _≤_;have h1:=HCC.out;have h2:=HF1.out;simp only[Tr.size] at h1;omega
    have HKZ2:Hid (∀x∈qU keys c1,kF x.size):=V5 keys c1 HSM.out.1.2 (by have:=HC1.out;have:=HF1.out;omega)
    rw[hs2] at HROW5
    rw[hc1] at HCB5
    clear hs2 hc1
    exact zonce
  ·skip
   have HROW5:Hid (w3.heap[g]? = some (rJ k n u s (.slice va keys.length vc) none 0 0)):=K7.out
   have HKV5:=HKV
   have HCB5:=HCB3
   have HM5:Hid (Moved (fun q=>q=cb) w w3):=Moved.of_grew HG3.out
   have HB15:Hid (w3.heap[N]? = _):=HB1'.out
   have HB25:Hid (w3.heap[N+1]? = _):=HB2'.out
   have HT:Hid (zM (.mk k n u s keys l) c=(.mk k n u s (qU keys c) (zT l (c+keys.length)).1,(zT l (c+keys.length)).2)):=by show _=_;rw[zM,if_neg hk5,if_neg hk5]
   have HS2:Hid (kF s.size):=HB.out.2.2.2
   have HC1:Hid (c+4096≤1000005000):=by show _≤_;have:=HCC.out;omega
   have HC2:Hid (c+keys.length+4097*kV l≤1000000000):=by show _≤_;have h1:=HCC.out;have h2:=HF1.out;simp only[Tr.size] at h1;omega
   have HKZ2:Hid (∀x∈qU keys c,kF x.size):=V5 keys c HSM.out.1.2 (by have:=HC1.out;have:=HF1.out;omega)
   obtain⟨s2,hs2⟩:∃s2,s=s2:=⟨_,rfl⟩
   have HROW5':Hid (w3.heap[g]? = some (rJ k n u s2 (.slice va keys.length vc) none 0 0)):=by rw[← hs2];exact HROW5.out
   have HT':Hid (zM (.mk k n u s keys l) c=(.mk k n u s2 (qU keys c) (zT l (c+keys.length)).1,(zT l (c+keys.length)).2)):=by rw[← hs2];exact HT.out
   have HS2':Hid (kF s2.size):=by rw[← hs2];exact HS2.out
   clear HROW5 HT HS2 hs2
   have HROW5:=HROW5'
   have HT:=HT'
   have HS2:=HS2'
   clear HROW5' HT' HS2'
   obtain⟨c1,hc1⟩:∃c1,c=c1:=⟨_,rfl⟩
   have HCB5':Hid (w3.heap[cb]? = some (YN c1)):=by rw[← hc1];exact HCB5.out
   have HT':Hid (zM (.mk k n u s keys l) c=(.mk k n u s2 (qU keys c1) (zT l (c1+keys.length)).1,(zT l (c1+keys.length)).2)):=by rw[← hc1];exact HT.out
   have HC1':Hid (c1+4096≤1000005000):=by rw[← hc1];exact HC1.out
   have HC2':Hid (c1+keys.length+4097*kV l≤1000000000):=by rw[← hc1];exact HC2.out
   have HKZ2':Hid (∀x∈qU keys c1,kF x.size):=by rw[← hc1];exact HKZ2.out
   clear HCB5 HT HC1 HC2 HKZ2 hc1
   have HCB5:=HCB5'
   have HT:=HT'
   have HC1:=HC1'
   have HC2:=HC2'
   have HKZ2:=HKZ2'
   clear HCB5' HT' HC1' HC2' HKZ2'
   by_cases hk1:5≤k
   ·have hk2:¬k≤6:=fun h=>hk5 ⟨hk1,h⟩
    clear hk5
    go_wp2_with fail
    clear b0
    skip
    exact zonce
   ·clear hk5
    go_wp2_with fail
    exact zonce
end Go.Proofs.YtdjoffgkndncfaaGreat
namespace Go.Proofs.YtdjoffgkndncfaaGreat
open Go.Proofs.Tryz
open Go Go.ChangeShapes Go.WideShapes Go.ChangeAt Go.RowKit Go.Joins Go.Deep
open Go.Proofs.YtdjoffgkndncfaaGreat.Ft (V3 vV okV ValsAt inlineB legalB packF codeF typedF allF oneF allAt headF fitsL fitsV fitsF belowW isA unpackF)
theorem BT {x y:UInt8} (hxy:x≠y):∀(i j:Nat) (A B:List UInt8),List.replicate i x++y::A=List.replicate j x++y::B→i=j
 | 0,0,_,_,_=>rfl
 | 0,j+1,A,B,h=>by
  simp[List.replicate_succ] at h
  exact absurd h.1.symm hxy
 | i+1,0,A,B,h=>by
  simp[List.replicate_succ] at h
  exact absurd h.1 hxy
 | i+1,j+1,A,B,h=>by
  simp only[List.replicate_succ,List.cons_append,List.cons.injEq,true_and] at h
  rw[BT hxy i j A B h]
theorem wG (c:Nat):Lib.repeatL [(105:UInt8)] c=List.replicate c 105:=by
 induction c with
 | zero=>rfl
 | succ n ih=>simp only[Lib.repeatL,ih,List.replicate_succ,List.cons_append,List.nil_append]
theorem D3 {q r:ByteArray} {i j:Nat} (h:vE q i=vE r j):i=j:=by
 have h1:=congrArg (fun b:ByteArray=>b.data.toList.reverse) h
 simp only[vE,ByteArray.data_append,Array.toList_append,List.reverse_append,wG,List.reverse_replicate] at h1
 exact BT (x:=105) (y:=35) (by decide) i j _ _ h1
def NdR (a b:Nat) (L:List ByteArray):Prop:=a≤b∧L.Nodup∧∀x∈L,∃q j,x=vE q j∧a < j∧j≤b
theorem NdR.nil (a:Nat):NdR a a []:=⟨Nat.le_refl _,List.nodup_nil,fun x h=>by cases h⟩
theorem NdR.one (q:ByteArray) (c:Nat):NdR c (c+1) [vE q (c+1)]:=⟨Nat.le_succ _,by simp,fun x h=>⟨q,c+1,List.mem_singleton.1 h,Nat.lt_succ_self _,Nat.le_refl _⟩⟩
theorem NdR.app {a b c:Nat} {L M:List ByteArray} (h:NdR a b L) (k:NdR b c M):NdR a c (L++M):=by
 refine⟨Nat.le_trans h.1 k.1,List.nodup_append.2 ⟨h.2.1,k.2.1,fun x hx y hy e=>?_⟩,fun x hx=>?_⟩
 ·obtain⟨q,i,e1,h1,h2⟩:=h.2.2 x hx
  obtain⟨r,j,e2,h3,h4⟩:=k.2.2 y hy
  have:=D3 (e1.symm.trans (e.trans e2))
  omega
 ·rcases List.mem_append.1 hx with hx|hx
  ·obtain⟨q,i,e1,h1,h2⟩:=h.2.2 x hx
   exact⟨q,i,e1,h1,Nat.le_trans h2 k.1⟩
  ·obtain⟨q,i,e1,h1,h2⟩:=k.2.2 x hx
   exact⟨q,i,e1,Nat.lt_of_le_of_lt h.1 h1,h2⟩
theorem wH:∀(l:List ByteArray) (c:Nat),NdR c (c+l.length) (qU l c)
 | [],c=>NdR.nil c
 | q::r,c=>by
  have h:=(NdR.one q c).app (wH r (c+1))
  simp only[qU,List.length_cons]
  rw[show c+(r.length+1)=c+1+r.length by omega]
  exact h
mutual
theorem wI:∀(t:Tr) (c:Nat),NdR c (zM t c).2 (qN (zM t c).1)
 | .mk k n u s keys l,c=>by
  have hk:=wH keys (if 5≤k∧k≤6 then c+1 else c)
  have hl:=cU l ((if 5≤k∧k≤6 then c+1 else c)+keys.length)
  have h:=hk.app hl
  simp only[zM,qN]
  by_cases h5:5≤k∧k≤6
  ·rw[if_pos h5] at h⊢
   rw[if_pos (by omega),if_pos h5]
   exact (NdR.one s c).app h
  ·rw[if_neg h5] at h⊢
   rw[if_neg (by omega)]
   exact h
theorem cU:∀(l:List Tr) (c:Nat),NdR c (zT l c).2 (vJ (zT l c).1)
 | [],c=>NdR.nil c
 | t::r,c=>by
  simp only[zT,vJ]
  exact (wI t c).app (cU r (zM t c).2)
end
mutual
theorem oP:∀(t:Tr) (c:Nat),(qN (zM t c).1).length+c=(zM t c).2
 | .mk k n u s keys l,c=>by
  have hl:=oQ l ((if 5≤k∧k≤6 then c+1 else c)+keys.length)
  simp only[zM,qN,List.length_append,K6]
  by_cases h5:5≤k∧k≤6
  ·simp only[if_pos h5] at hl⊢
   rw[if_pos (by omega),List.length_singleton]
   omega
  ·simp only[if_neg h5] at hl⊢
   rw[if_neg (by omega),List.length_nil]
   omega
theorem oQ:∀(l:List Tr) (c:Nat),(vJ (zT l c).1).length+c=(zT l c).2
 | [],c=>by simp[zT,vJ]
 | t::r,c=>by
  have h1:=oP t c
  have h2:=oQ r (zM t c).2
  simp only[zT,vJ,List.length_append]
  omega
end
mutual
theorem d6:∀(t:Tr) (c:Nat),(zM t c).1.size=t.size
 | .mk k n u s keys l,c=>by simp only[zM,Tr.size,lT]
theorem lT:∀(l:List Tr) (c:Nat),kV (zT l c).1=kV l
 | [],c=>by simp[zT,kV]
 | t::r,c=>by simp only[zT,kV,d6,lT]
end
theorem wJ {K:Nat}:∀(l:List ByteArray) (c M:Nat),(∀q∈l,q.size≤K)→c+l.length≤M→∀x∈qU l c,x.size≤K+1+M
 | [],_,_,_,_,x,hx=>by simp[qU] at hx
 | q::r,c,M,h,hc,x,hx=>by
  simp only[List.length_cons] at hc
  simp only[qU] at hx
  rcases List.mem_cons.1 hx with rfl|hx
  ·rw[QZ]
   have:=h q (by simp)
   omega
  ·exact wJ r (c+1) M (fun z hz=>h z (by simp[hz])) (by omega) x hx
mutual
theorem BU {K M:Nat}:∀(t:Tr) (c:Nat),smT K t→(zM t c).2≤M→smT (K+1+M) (zM t c).1
 | .mk k n u s keys l,c,h,hM=>by
  have hl:=wK (M:=M) l ((if 5≤k∧k≤6 then c+1 else c)+keys.length) h.2 hM
  have hg:=(cU l ((if 5≤k∧k≤6 then c+1 else c)+keys.length)).1
  have hM2:(zT l ((if 5≤k∧k≤6 then c+1 else c)+keys.length)).2≤M:=hM
  refine⟨⟨?_,wJ keys _ M h.1.2 (by omega)⟩,hl⟩
  have h1:=h.1.1
  by_cases h5:5≤k∧k≤6
  ·simp only[if_pos h5] at hg hM2⊢
   rw[QZ]
   omega
  ·simp only[if_neg h5]
   omega
theorem wK {K M:Nat}:∀(l:List Tr) (c:Nat),smL K l→(zT l c).2≤M→smL (K+1+M) (zT l c).1
 | [],c,_,_=>trivial
 | t::r,c,h,hM=>by
  have hg:=(cU r (zM t c).2).1
  have hM2:(zT r (zM t c).2).2≤M:=hM
  exact⟨BU t c h.1 (by omega),wK r (zM t c).2 h.2 hM2⟩
end
theorem GM:∀(m:Nat) (t:Tr) (b:Nat),t.size≤m→YC b t→(qN t).length+2≤4*t.size:=by
 intro m
 induction m with
 | zero=>intro t b h;have:=t.size_pos;omega
 | succ m ih=>
  intro t b h hv
  obtain⟨k,n,u,s,keys,l⟩:=t
  obtain⟨_,_,v3,v4,_⟩:=JW hv
  have y6:=valL_iff.1 hv.2.2.2
  simp only[Tr.size] at h
  have hk:keys.length≤l.length:=by
   by_cases e:k=17
   ·rw[(v4 e).2];exact Nat.le_refl _
   ·rw[v3 e];exact Nat.zero_le _
  have hl:∀r:List Tr,(∀x∈r,x∈l)→(vJ r).length+2*r.length≤4*kV r:=by
   intro r
   induction r with
   | nil=>intro _;simp[vJ,kV]
   | cons x r ihr=>
    intro hm
    have h1:=ihr fun z hz=>hm z (by simp[hz])
    have hx:=hm x (by simp)
    have h2:=ih x (b+1) (by have:=yA hx;omega) (y6 x hx)
    simp only[vJ,kV,List.length_append,List.length_cons]
    omega
  have h3:=hl l fun _ h=>h
  simp only[qN,Tr.size,List.length_append]
  have h4:(if k=5∨k=6 then [s] else ([]:List ByteArray)).length≤1:=by split<;>simp
  omega
/-! ### sorting keeps the strings and the empty maps -/
theorem AQ {a b:List Tr} (h:a.Perm b):(vJ a).Perm (vJ b):=by
 induction h with
 | nil=>exact List.Perm.refl _
 | cons x _ ih=>exact ih.append_left _
 | swap x y l=>
  simp only[vJ]
  rw[← List.append_assoc,← List.append_assoc]
  exact List.perm_append_comm.append_right _
 | trans _ _ i1 i2=>exact i1.trans i2
theorem D4 {a b:List Tr} (h:a.Perm b):JL a=JL b:=by
 induction h with
 | nil=>rfl
 | cons x _ ih=>simp only[JL,ih]
 | swap x y l=>simp only[JL];omega
 | trans _ _ i1 i2=>exact i1.trans i2
theorem D5:∀(m:Nat) (t:Tr) (b:Nat),t.size≤m→YC b t→(qN (zO t)).Perm (qN t)∧J2 (zO t)=J2 t:=by
 intro m
 induction m with
 | zero=>intro t b h;have:=t.size_pos;omega
 | succ m ih=>
  intro t b h hv
  obtain⟨k,n,u,s,keys,l⟩:=t
  obtain⟨_,_,v3,v4,_⟩:=JW hv
  have y6:=valL_iff.1 hv.2.2.2
  simp only[Tr.size] at h
  have hl:∀r:List Tr,(∀x∈r,x∈l)→(vJ (r.map zO)).Perm (vJ r)∧JL (r.map zO)=JL r:=by
   intro r
   induction r with
   | nil=>intro _;exact⟨List.Perm.refl _,rfl⟩
   | cons x r ihr=>
    intro hm
    have h1:=ihr fun z hz=>hm z (by simp[hz])
    have hx:=hm x (by simp)
    have h2:=ih x (b+1) (by have:=yA hx;omega) (y6 x hx)
    simp only[List.map_cons,vJ,JL]
    exact⟨h2.1.append h1.1,by omega⟩
  obtain⟨h3,h4⟩:=hl l fun _ h=>h
  rw[← yH] at h3 h4
  have kQ:(J4 l).length=l.length:=by rw[yH,List.length_map]
  simp only[zO]
  by_cases e:k=17
  ·rw[if_pos e]
   have hkl:=(v4 e).2
   have hp:=qD (keys.zip (J4 l))
   have hp1:((vH (keys.zip (J4 l))).map (·.1)).Perm keys:=by
    have:=hp.map (·.1)
    rwa [pI (by omega)] at this
   have hp2:((vH (keys.zip (J4 l))).map (·.2)).Perm (J4 l):=by
    have:=hp.map (·.2)
    rwa [List.map_snd_zip (by omega)] at this
   simp only[qN,J2]
   refine⟨(List.Perm.append hp1 ((AQ hp2).trans h3)).append_left _,?_⟩
   rw[D4 hp2,h4,hp2.length_eq,kQ]
  ·rw[if_neg e]
   simp only[qN,J2]
   exact⟨(h3.append_left _).append_left _,by rw[h4,kQ]⟩
/-! ### the documents -/
theorem Old.new:Old BS.new [] [] 0:=⟨fun z h=>(by cases h),fun z h=>(by cases h),fun z h=>(by cases h),fun z h=>(by cases h)⟩
theorem AR {fl:Int} {t:Tr} {K:Nat} (hc:KG t=0) (hsm:smT K t) (hr:fG t) (hz:(128+2*K)*t.size≤40000) (hn:(qN t).Nodup) (he:J2 t≤1):qO 1048576 fl t=qO 1048576 0 t:=by
 obtain⟨h0,hv⟩:=check_val.1 hc
 obtain⟨hv2,hz2⟩:=gV t.size t 0 (Nat.le_refl _) hv
 have hcost:=BJ (K:=K) _ (zO t) 0 (Nat.le_refl _) hv2 (p9 _ t (Nat.le_refl _) hsm)
 rw[hz2] at hcost
 obtain⟨s1,s2⟩:=D5 t.size t 0 (Nat.le_refl _) hv
 have h:=(DG (jA:=1048576) (fl:=fl) (by decide) (zO t).size (zO t) 0 (Nat.le_refl _) hv2 (sS t.size t 0 (Nat.le_refl _) hv) (uO _ t (Nat.le_refl _) hr) BS.new [] [] 0 Inv.new (by show ((0:Nat):Int)+_≤_;omega) (by show 0+_≤_;omega) Old.new (fun s _ h=>by cases h) (s1.nodup_iff.2 hn) (by omega)).1
 unfold qO
 rw[if_neg (by rw[hc];decide),if_neg (by rw[hc];decide),show JA 1048576=1048576 by decide,h]
theorem GN {fl:Int} {t:Tr} {K:Nat} (hc:KG t=0) (hsm:smT K t) (hr:fG t) (hz:(128+2*K)*t.size≤40000):∃D,qO 1048576 fl t=(D,0):=by
 obtain⟨h0,hv⟩:=check_val.1 hc
 obtain⟨hv2,hz2⟩:=gV t.size t 0 (Nat.le_refl _) hv
 have hcost:=BJ (K:=K) _ (zO t) 0 (Nat.le_refl _) hv2 (p9 _ t (Nat.le_refl _) hsm)
 rw[hz2] at hcost
 have hP:=uN (jA:=1048576) (jC:=fl) (by decide) (zO t).size (zO t) 0 BS.new (Nat.le_refl _) hv2 (sS t.size t 0 (Nat.le_refl _) hv) (uO _ t (Nat.le_refl _) hr) Inv.new (by show ((0:Nat):Int)+_≤_;omega) (by show 0+_≤_;omega)
 obtain⟨e,h1,h2⟩:=hP.grow
 obtain⟨v,h3,h4⟩:=hP.push
 rw[show BS.new.s.1=[] from rfl,List.nil_append] at h1
 rw[show BS.new.stk=[] from rfl,List.nil_append] at h3
 have hB:wM 1048576 fl t e v:=⟨hP.inv,by rw[hP.inv.s,h1],h3,by rw[← h1];exact h4,by omega⟩
 refine⟨pY e v,?_⟩
 unfold qO
 rw[if_neg (by rw[hc];decide),show JA 1048576=1048576 by decide]
 exact CY hB.inv.e0 hB.s hB.stk (by have:=hB.len;omega) hB.near (by have:=hB.doc_len;omega)
theorem BV:∀{l:List Tr},(∀x∈l,Few x)→aN l
 | [],_=>trivial
 | t::r,h=>⟨h t (by simp),BV fun x hx=>h x (by simp[hx])⟩
theorem okS_few:∀(m:Nat) (t:Tr),t.size≤m→okS t→Few t:=by
 intro m
 induction m with
 | zero=>intro t h;have:=t.size_pos;omega
 | succ m ih=>
  intro t h ho
  obtain⟨k,n,u,s,keys,l⟩:=t
  rw[AZ] at ho
  simp only[Tr.size] at h
  exact⟨ho.2.2.1,ho.2.2.2.1,BV fun x hx=>ih x (by have:=yA hx;omega) (ho.2.2.2.2 x hx)⟩
theorem cut40 (t:Tr):(vD 20 39 t).1.size≤40∧smT 20 (vD 20 39 t).1∧Few (vD 20 39 t).1:=
 ⟨by have:=QH 20 t 39;omega,cut_sm 20 _ t 39 (Nat.le_refl _),okS_few _ _ (Nat.le_refl _) (cut_okS 20 (by omega) _ t 39 (Nat.le_refl _) (by omega))⟩
theorem wL {fl:Int} {t:Tr} (h:t.size≤40∧smT 20 t∧Few t) (hc:KG (zM t 0).1=0) (hr:fG (zM t 0).1):∃D,qO 1048576 0 (zM t 0).1=(D,0)∧(J2 (zM t 0).1≤1→qO 1048576 fl (zM t 0).1=(D,0))∧okE (zO (zM t 0).1):=by
 obtain⟨h0,hv⟩:=check_val.1 hc
 have h1:=GM _ _ 0 (Nat.le_refl _) hv
 have h2:=oP t 0
 have h3:=d6 t 0
 have h4:(zM t 0).2≤160:=by omega
 have h5:=BU (M:=160) t 0 h.2.1 h4
 have h6:(128+2*(20+1+160))*(zM t 0).1.size≤40000:=by omega
 obtain⟨D,hD⟩:=GN (fl:=0) hc h5 hr h6
 exact⟨D,hD,fun he=>by rw[AR hc h5 hr h6 (wI t 0).2.1 he,hD],cS (BR (by omega) _ _ (Nat.le_refl _) h5) hc⟩
theorem AT {t:Tr} (h:t.size≤40∧smT 20 t∧Few t):(zM t 0).1.size≤40:=by rw[d6];exact h.1
end Go.Proofs.YtdjoffgkndncfaaGreat
namespace Go.Proofs.YtdjoffgkndncfaaGreat
open Go.Proofs.Tryz
open Go Go.ChangeShapes Go.WideShapes Go.ChangeAt Go.RowKit Go.Joins
open Go.ChangeMaps (open_string shut_string)
open Go.Deep
open Go.Proofs.YtdjoffgkndncfaaGreat.Ft (V3 vV okV ValsAt inlineB legalB packF codeF typedF allF oneF unpackF)
end Go.Proofs.YtdjoffgkndncfaaGreat
