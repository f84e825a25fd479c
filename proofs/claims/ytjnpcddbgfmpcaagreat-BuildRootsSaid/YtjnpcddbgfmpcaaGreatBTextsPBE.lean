/-
  Texts of the proof.
-/
import Derived.Test.YtjnpcddbgfmpcaaGreatBTextsPBD
set_option linter.unusedVariables false
set_option linter.unusedSimpArgs false
set_option maxHeartbeats 32000000
set_option maxRecDepth 100000
namespace Go.Proofs.YtjnpcddbgfmpcaaGreat
open Go.Proofs.Tryz
open Go Go.ChangeShapes Go.WideShapes Go.ChangeAt Go.RowKit Go.Joins Go.Deep
open Go.Proofs.YtjnpcddbgfmpcaaGreat.Ft (V3 vV okV ValsAt inlineB legalB packF codeF typedF allF)
def yA {α:Type} (f:α→Value) (w:World) (v:Value) (l:List α):Prop:=
 ∃a c,v=.slice a l.length c∧∀(i:Nat) (x:α),l[i]? = some x→∃b off,a=some ⟨b,off,none⟩∧w.cell? ⟨b,off+i,none⟩=some (f x)
theorem eC (l:List Int) (lv:Value) (w:World) (hp:yA (fun x=>.int .i64 x) w lv l) (hb:∀x∈l,-9223372036854775808≤x∧x≤9223372036854775807) (hl:l.length≤1048576):Calls prog 96 #[.func (.func 78) #[] #[],lv] w fun r w'=>∃v',r=.returned v'∧jQ w' w.heap.size v' (l.map yG)∧jB w w':=by
 obtain⟨ad,c,rfl,j4⟩:=hp
 have HC:=zh j4
 have HB:=zh hb
 have HL:=zh hl
 clear j4 hb
 have hll:l.length≤9223372036854775807:=by omega
 go_enter func96,ntmps96
 go_wp2_with fail
 go_loopw [4,9] (fun v i wr=>∃k:Nat,k≤l.length∧i=.int .i64 k∧Hid (jQ wr w.heap.size v ((l.take k).map yG)∧jB w wr)) (fun _ i _=>l.length - (intOf i).toNat)
 case atStart=>exact⟨0,Nat.zero_le _,rfl,by
  show _∧_
  exact⟨World.ownsRow_nil _ _ _ _,jB.refl _⟩⟩
 case round=>
  obtain⟨k,hk,rfl,HW⟩:=hrel
  by_cases hlt:k < l.length
  ·obtain⟨x,hx⟩:∃x,l[k]? = some x:=⟨_,List.getElem?_eq_getElem hlt⟩
   have HSN:Hid ((l.take (k+1)).map yG=(l.take k).map yG++[yG x]):=by show _=_;rw[List.take_add_one,hx];simp
   have HX:=zh (HB.out x (List.mem_of_getElem? hx))
   obtain⟨b,off,rfl,c0⟩:=HC.out k x hx
   clear hx
   have d0:=HW.out.2.cell c0
   clear c0
   go_wp2_with fail
   refine (VI x wr HX.out.1 HX.out.2).mono ?_
   rintro r w2 ⟨rfl,hg⟩
   have HO:=zh (show jQ w2 w.heap.size u4 ((l.take k).map yG) from yE HW.out.1 hg)
   have HG:=zh (HW.out.2.trans hg)
   obtain⟨va,vc,rfl,hvc⟩:=j8 HO.out
   have HLN:Hid (((l.take k).map yG).length < l.length):=by show _ < _;rw[List.length_map,List.length_take];omega
   generalize (l.take k).map yG=L at *
   generalize yG x=X at *
   obtain⟨X0,X1,X2⟩:=X
   clear hg HW
   have HO2:Hid (∀o,jQ (w2.alloc o) w.heap.size (.slice va L.length vc) L):=fun o=>yE HO.out ((jB.refl _).alloc o)
   go_wp2_with (at_builtin;refine zN rfl _ _ rfl w.heap.size (.slice va L.length vc) L rfl (HO2.out _) _ [(X0,X1,X2)] rfl (q9 _ _) (fun c h=>by cases h) (by have:=HLN.out;have:=HL.out;simp;omega) (Nat.le_trans HG.out.size (by simp)) ?_;intro v' w3 j3 hgr hqq;obtain⟨va2,vc2,rfl,_⟩:=j8 j3;have HG3:=zh (And.intro j3 (KN (HO2.out _) (HG.out.alloc _) hgr));clear j3 hgr hqq)
   go_roundw
   case rel=>
    refine⟨k+1,by omega,by go_num,?_⟩
    show _∧_
    rw[HSN.out]
    have hh:=HG3.out
    rw[List.length_append] at hh
    exact hh
   case measure=>simp[intOf];omega
  ·have ek:k=l.length:=by omega
   subst ek
   have hw:=HW.out
   have HE:Hid (jQ wr w.heap.size u4 (l.map yG)∧jB w wr):=by
    show _∧_
    rw[List.take_length] at hw
    exact hw
   clear hw HW
   go_wp2
   go_ret
   exact⟨_,rfl,HE.out⟩
theorem eD (l:List Int) (lv:Value) (w:World) (hp:yA (fun x=>.int .u64 x) w lv l) (hb:∀x∈l,0≤x∧x≤18446744073709551615) (hl:l.length≤1048576):Calls prog 97 #[.func (.func 79) #[] #[],lv] w fun r w'=>∃v',r=.returned v'∧jQ w' w.heap.size v' (l.map yJ)∧jB w w':=by
 obtain⟨ad,c,rfl,j4⟩:=hp
 have HC:=zh j4
 have HB:=zh hb
 have HL:=zh hl
 clear j4 hb
 have hll:l.length≤9223372036854775807:=by omega
 go_enter func97,ntmps97
 go_wp2_with fail
 go_loopw [4,9] (fun v i wr=>∃k:Nat,k≤l.length∧i=.int .i64 k∧Hid (jQ wr w.heap.size v ((l.take k).map yJ)∧jB w wr)) (fun _ i _=>l.length - (intOf i).toNat)
 case atStart=>exact⟨0,Nat.zero_le _,rfl,by
  show _∧_
  exact⟨World.ownsRow_nil _ _ _ _,jB.refl _⟩⟩
 case round=>
  obtain⟨k,hk,rfl,HW⟩:=hrel
  by_cases hlt:k < l.length
  ·obtain⟨x,hx⟩:∃x,l[k]? = some x:=⟨_,List.getElem?_eq_getElem hlt⟩
   have HSN:Hid ((l.take (k+1)).map yJ=(l.take k).map yJ++[yJ x]):=by show _=_;rw[List.take_add_one,hx];simp
   have HX:=zh (HB.out x (List.mem_of_getElem? hx))
   obtain⟨b,off,rfl,c0⟩:=HC.out k x hx
   clear hx
   have d0:=HW.out.2.cell c0
   clear c0
   go_wp2_with fail
   refine (VJ x wr HX.out.1 HX.out.2).mono ?_
   rintro r w2 ⟨rfl,hg⟩
   have HO:=zh (show jQ w2 w.heap.size u4 ((l.take k).map yJ) from yE HW.out.1 hg)
   have HG:=zh (HW.out.2.trans hg)
   obtain⟨va,vc,rfl,hvc⟩:=j8 HO.out
   have HLN:Hid (((l.take k).map yJ).length < l.length):=by show _ < _;rw[List.length_map,List.length_take];omega
   generalize (l.take k).map yJ=L at *
   generalize yJ x=X at *
   obtain⟨X0,X1,X2⟩:=X
   clear hg HW
   have HO2:Hid (∀o,jQ (w2.alloc o) w.heap.size (.slice va L.length vc) L):=fun o=>yE HO.out ((jB.refl _).alloc o)
   go_wp2_with (at_builtin;refine zN rfl _ _ rfl w.heap.size (.slice va L.length vc) L rfl (HO2.out _) _ [(X0,X1,X2)] rfl (q9 _ _) (fun c h=>by cases h) (by have:=HLN.out;have:=HL.out;simp;omega) (Nat.le_trans HG.out.size (by simp)) ?_;intro v' w3 j3 hgr hqq;obtain⟨va2,vc2,rfl,_⟩:=j8 j3;have HG3:=zh (And.intro j3 (KN (HO2.out _) (HG.out.alloc _) hgr));clear j3 hgr hqq)
   go_roundw
   case rel=>
    refine⟨k+1,by omega,by go_num,?_⟩
    show _∧_
    rw[HSN.out]
    have hh:=HG3.out
    rw[List.length_append] at hh
    exact hh
   case measure=>simp[intOf];omega
  ·have ek:k=l.length:=by omega
   subst ek
   have hw:=HW.out
   have HE:Hid (jQ wr w.heap.size u4 (l.map yJ)∧jB w wr):=by
    show _∧_
    rw[List.take_length] at hw
    exact hw
   clear hw HW
   go_wp2
   go_ret
   exact⟨_,rfl,HE.out⟩
theorem nD (l:List Bool) (lv:Value) (w:World) (hp:yA (fun x=>.bool x) w lv l) (hb:∀x∈l,True) (hl:l.length≤1048576):Calls prog 98 #[.func (.func 80) #[] #[],lv] w fun r w'=>∃v',r=.returned v'∧jQ w' w.heap.size v' (l.map zD)∧jB w w':=by
 obtain⟨ad,c,rfl,j4⟩:=hp
 have HC:=zh j4
 have HB:=zh hb
 have HL:=zh hl
 clear j4 hb
 have hll:l.length≤9223372036854775807:=by omega
 go_enter func98,ntmps98
 go_wp2_with fail
 go_loopw [4,9] (fun v i wr=>∃k:Nat,k≤l.length∧i=.int .i64 k∧Hid (jQ wr w.heap.size v ((l.take k).map zD)∧jB w wr)) (fun _ i _=>l.length - (intOf i).toNat)
 case atStart=>exact⟨0,Nat.zero_le _,rfl,by
  show _∧_
  exact⟨World.ownsRow_nil _ _ _ _,jB.refl _⟩⟩
 case round=>
  obtain⟨k,hk,rfl,HW⟩:=hrel
  by_cases hlt:k < l.length
  ·obtain⟨x,hx⟩:∃x,l[k]? = some x:=⟨_,List.getElem?_eq_getElem hlt⟩
   have HSN:Hid ((l.take (k+1)).map zD=(l.take k).map zD++[zD x]):=by show _=_;rw[List.take_add_one,hx];simp
   have HX:=zh (HB.out x (List.mem_of_getElem? hx))
   obtain⟨b,off,rfl,c0⟩:=HC.out k x hx
   clear hx
   have d0:=HW.out.2.cell c0
   clear c0
   go_wp2_with fail
   refine (VK x wr).mono ?_
   rintro r w2 ⟨rfl,hg⟩
   have HO:=zh (show jQ w2 w.heap.size u4 ((l.take k).map zD) from yE HW.out.1 hg)
   have HG:=zh (HW.out.2.trans hg)
   obtain⟨va,vc,rfl,hvc⟩:=j8 HO.out
   have HLN:Hid (((l.take k).map zD).length < l.length):=by show _ < _;rw[List.length_map,List.length_take];omega
   generalize (l.take k).map zD=L at *
   generalize zD x=X at *
   obtain⟨X0,X1,X2⟩:=X
   clear hg HW
   have HO2:Hid (∀o,jQ (w2.alloc o) w.heap.size (.slice va L.length vc) L):=fun o=>yE HO.out ((jB.refl _).alloc o)
   go_wp2_with (at_builtin;refine zN rfl _ _ rfl w.heap.size (.slice va L.length vc) L rfl (HO2.out _) _ [(X0,X1,X2)] rfl (q9 _ _) (fun c h=>by cases h) (by have:=HLN.out;have:=HL.out;simp;omega) (Nat.le_trans HG.out.size (by simp)) ?_;intro v' w3 j3 hgr hqq;obtain⟨va2,vc2,rfl,_⟩:=j8 j3;have HG3:=zh (And.intro j3 (KN (HO2.out _) (HG.out.alloc _) hgr));clear j3 hgr hqq)
   go_roundw
   case rel=>
    refine⟨k+1,by omega,by go_num,?_⟩
    show _∧_
    rw[HSN.out]
    have hh:=HG3.out
    rw[List.length_append] at hh
    exact hh
   case measure=>simp[intOf];omega
  ·have ek:k=l.length:=by omega
   subst ek
   have hw:=HW.out
   have HE:Hid (jQ wr w.heap.size u4 (l.map zD)∧jB w wr):=by
    show _∧_
    rw[List.take_length] at hw
    exact hw
   clear hw HW
   go_wp2
   go_ret
   exact⟨_,rfl,HE.out⟩
def eE (elem many:Int) (l:List V3):Prop:=(elem = -1∧many=0)∨(elem≠-1∧many=0∧(typedF elem 0).2=true)∨(elem≠-1∧many=(l.length:Int)∧0 < l.length∧(typedF elem (l.length:Int)).2=true)
def zP (κ:Nat→Nat) (w:World) (lv:Value):Prop:=∀ad n c,lv=.slice (some ad) n c→ad.block < w.heap.size∧κ ad.block=0
theorem iB {most:Int} {T:V3→Int} {len tagged:Bool} {kind e0:Int} {l:List V3} {s:St} (h:(s.1.length:Int)≤most):((k9 most T len tagged kind e0 l s).2.1.length:Int)≤most:=by
 unfold k9
 dsimp only
 have h1:∀x,((jH most x s).1.length:Int)≤most:=fun x=>kJ h
 have h2:∀x,(((if len then jW most x l.length (jH most x s) else jH most x s)).1.length:Int)≤most:=fun x=>by
  split
  ·exact zW (h1 x)
  ·exact h1 x
 have h3:=fun x=>qC (x:=x) l (h2 x)
 have h4:∀x,(((if tagged then kQ most x l (jV most x l (if len then jW most x l.length (jH most x s) else jH most x s)) else jV most x l (if len then jW most x l.length (jH most x s) else jH most x s))).1.length:Int)≤most:=fun x=>by
  split
  ·exact KK l (h3 x)
  ·exact h3 x
 by_cases ha:kY T e0 l≠0
 ·rw[if_pos ha];exact h
 rw[if_neg ha]
 generalize allF l (0,0,0) s.1.length (if len=true then 1 else 0)=X
 by_cases hb:X=0
 ·rw[if_pos hb];exact h
 rw[if_neg hb]
 have h5:=h4 X
 generalize (if tagged=true then kQ most X l (jV most X l (if len=true then jW most X l.length (jH most X s) else jH most X s)) else jV most X l (if len=true then jW most X l.length (jH most X s) else jH most X s))=s4 at h5⊢
 by_cases hc:s4.2≠0
 ·rw[if_pos hc];exact h5
 ·rw[if_neg hc];exact h5
theorem eF {most:Int} {T:V3→Int} {len tagged:Bool} {kind e0:Int} {l:List V3} {s:St} (h:(s.1.length:Int)≤most) (hm:most≤1048576):okV (k9 most T len tagged kind e0 l s).1.1:=by
 unfold k9
 dsimp only
 have h1:∀x,((jH most x s).1.length:Int)≤most:=fun x=>kJ h
 have h2:∀x,(((if len then jW most x l.length (jH most x s) else jH most x s)).1.length:Int)≤most:=fun x=>by
  split
  ·exact zW (h1 x)
  ·exact h1 x
 by_cases ha:kY T e0 l≠0
 ·rw[if_pos ha];exact ok0
 rw[if_neg ha]
 generalize allF l (0,0,0) s.1.length (if len=true then 1 else 0)=X
 by_cases hb:X=0
 ·rw[if_pos hb];exact ok0
 rw[if_neg hb]
 have h5:=h2 X
 generalize (if tagged=true then kQ most X l (jV most X l (if len=true then jW most X l.length (jH most X s) else jH most X s)) else jV most X l (if len=true then jW most X l.length (jH most X s) else jH most X s))=s4
 by_cases hc:s4.2≠0
 ·rw[if_pos hc];exact ok0
 ·rw[if_neg hc]
  refine⟨Int.natCast_nonneg _,?_⟩
  show (List.length _:Int)≤_
  omega
theorem nE {most elem many:Int} {l:List V3} {s:St} (h:(s.1.length:Int)≤most):((zC most elem many l s).2.1.length:Int)≤most:=by
 unfold zC
 split
 ·exact iB h
 ·exact iB h
theorem bB {most elem many:Int} {l:List V3} {s:St} (h:(s.1.length:Int)≤most) (hm:most≤1048576):okV (zC most elem many l s).1.1:=by
 unfold zC
 split
 ·exact eF h hm
 ·exact eF h hm
section
variable {B:Nat} {q:kE} {most flags:Int} {κ κ0:Nat→Nat} {x y:BS} {w w' w0:World} {Kp:List (Nat × Obj)}
theorem kL.own_one {w:World} {p:Nat} {o o':Option Nat} {l l':List UInt8} {m m' e e':Int} (h:kL 0 w p o l m e) (k:kL 0 w p o' l' m' e'):o'=o:=by
 obtain⟨_,v,h1,_,h3,_⟩:=h
 obtain⟨_,v',k1,_,k3,_⟩:=k
 rw[h1] at k1
 injection k1 with k1
 injection k1 with k1
 have:v=v':=Option.some.inj (by exact congrArg (fun a:Array Value=>a[1]?) k1)
 subst this
 exact k3.symm.trans h3
theorem Bd.buf_callsA (h:Bd B q most flags κ x w) {f:Nat} {args:Array Value} {R:Ending→Prop} {s':St} (hl:(s'.1.length:Int)≤most)
 (hc:∀o,kL 0 w q.b o x.s.1 most x.s.2→(∀k,y6 q.b o k→κ k=2)→Calls prog f args w fun r w'=>R r∧jY 0 w w' q.b o most s') :
 Calls prog f args w fun r w'=>R r∧∀κ1,Bd B q most flags κ1 x w→j1 B q most flags κ1 {x with s:=s'} w w':=by
 obtain⟨h0,o,h1,h2⟩:=h.buf
 refine (hc o h1 (fun k hk=>hk.elim (fun e=>e ▸ h0) (fun e=>h2 k e.symm))).mono fun r w' hr=>⟨hr.1,fun κ1 g=>?_⟩
 obtain⟨g0,o1,g1,g2⟩:=g.buf
 obtain rfl:=h1.own_one g1
 obtain⟨S',k1,k2,k3⟩:=YV.turn (S:=fun k=>κ1 k=2) g0 g1 g2 hr.2
 exact g.buf_step hl k1 k2 k3
theorem nF {elem many:Int} {lv:Value} {l:List V3} (h:Bd B q most flags κ x w) (hF:eE elem many l) (hv:ValsAt w lv l) (ha:zP κ w lv) (j9:l.length≤1048576) (hok:∀v∈l,okV v) (hs:x.s.2=0) :
 Calls prog 115 #[jF q.b,.int .i64 elem,.int .i64 many,lv] w fun r w'=>r=.returned (zM (zC most elem many l x.s).1)∧∀κ1,Bd B q most flags κ1 x w→j1 B q most flags κ1 {x with s:=(zC most elem many l x.s).2} w w':=by
 refine h.buf_callsA (nE h.ok.len) fun o ho hκ=>?_
 have hap:∀ad n c,lv=.slice (some ad) n c→ad.block < w.heap.size∧¬y6 q.b o ad.block:=fun ad n c e=>⟨(ha ad n c e).1,fun hk=>by have h1:=hκ _ hk;have h2:=(ha ad n c e).2;omega⟩
 unfold zC
 rcases hF with ⟨rfl,rfl⟩|⟨hne,rfl,ht⟩|⟨hne,rfl,hpos,ht⟩
 ·rw[if_pos rfl]
  exact put_un x.s lv l ho (Nat.zero_le _) h.ok.len h.ok.m1 hv j9 hok hap hs
 ·rw[if_neg hne]
  exact put_ty0 elem _ (Prod.ext rfl ht) hne x.s lv l ho (Nat.zero_le _) h.ok.len h.ok.m1 hv j9 hok hap hs
 ·rw[if_neg hne,decide_eq_false (by omega)]
  exact put_fix elem _ x.s lv l (Prod.ext rfl ht) hpos ho (Nat.zero_le _) h.ok.len h.ok.m1 hv j9 hok hap hs
def eG (B:Nat) (q:kE) (most flags:Int) (w0:World) (κ0:Nat→Nat) (x y:BS) (w w':World):Prop:=∀Kp,Env B q most flags w0 κ0 Kp x w→Env B q most flags w0 κ0 Kp y w'
theorem iC (h:∀κ1,Bd B q most flags κ1 x w→j1 B q most flags κ1 y w w'):eG B q most flags w0 κ0 x y w w':=by
 rintro Kp ⟨κ,h1,h2,h3⟩
 obtain⟨κ1,k1,k2⟩:=h κ h1
 exact⟨κ1,k1,h2.trans k2,fun z hz=>⟨k2.1.heap (h3 z hz).1 (fun e=>e (h3 z hz).2),(k2.2 z.1 (Array.getElem?_eq_some_iff.1 (h3 z hz).1).1).trans (h3 z hz).2⟩⟩
theorem Env.vput {elem many:Int} {lv:Value} {l:List V3} (h:Env B q most flags w0 κ0 Kp x w) (hF:eE elem many l) (hv:ValsAt w0 lv l) (ha:zP κ0 w0 lv) (j9:l.length≤1048576) (hok:∀v∈l,okV v) (hs:x.s.2=0) :
 Calls prog 115 #[jF q.b,.int .i64 elem,.int .i64 many,lv] w fun r w'=>r=.returned (zM (zC most elem many l x.s).1)∧eG B q most flags w0 κ0 x {x with s:=(zC most elem many l x.s).2} w w':=by
 obtain⟨κ,h1,h2,h3⟩:=h
 have hv2:ValsAt w lv l:=vR hv h2.1 (fun ad n c e hk=>hk (ha ad n c e).2)
 have ha2:zP κ w lv:=fun ad n c e=>⟨Nat.lt_of_lt_of_le (ha ad n c e).1 h2.1.size,(h2.2 _ (ha ad n c e).1).trans (ha ad n c e).2⟩
 exact (nF h1 hF hv2 ha2 j9 hok hs).mono fun r w' hr=>⟨hr.1,iC hr.2⟩
def ZP (E0 E1 E2:Nat→World→Prop):Nat→Value→World→Prop
 | 0,v,w=>∃n,v=.pointer (some ⟨n,0,none⟩)∧E0 n w
 | 1,v,w=>∃n,v=.pointer (some ⟨n,0,none⟩)∧E1 n w
 | _+2,v,w=>∃n,v=.pointer (some ⟨n,0,none⟩)∧E2 n w
def NewT (j:Nat) (E0 E1 E2:Nat→World→Prop):Nat→(Nat→Value)→World→World→Prop
 | 0,_,w,w'=>∀n,E0 n w→E1 n w'
 | 1,y,w,w'=>∀n,y j=.pointer (some ⟨n,0,none⟩)→E1 n w→E2 n w'
 | _+2,_,w,w'=>∀n,E2 n w→E2 n w'
theorem ZP.st {j:Nat} {E0 E1 E2:Nat→World→Prop} (g0:∀n w w',jB w w'→E0 n w→E0 n w') (g1:∀n w w',jB w w'→E1 n w→E1 n w') (g2:∀n w w',jB w w'→E2 n w→E2 n w') :
 (∀p v w w',(fun (_:Nat) w w'=>jB w w') p w w'→ZP E0 E1 E2 p v w→ZP E0 E1 E2 p v w')∧∀p v w w',(∃y:Nat→Value,y j=v∧NewT j E0 E1 E2 p y w w')→ZP E0 E1 E2 p v w→ZP E0 E1 E2 (p+1) v w':=by
 refine⟨fun p v w w' hg h=>?_,fun p v w w' ⟨y,hy,hT⟩ h=>?_⟩
 ·match p,h with
  | 0,⟨n,e,h⟩=>exact⟨n,e,g0 n _ _ hg h⟩
  | 1,⟨n,e,h⟩=>exact⟨n,e,g1 n _ _ hg h⟩
  | _+2,⟨n,e,h⟩=>exact⟨n,e,g2 n _ _ hg h⟩
 ·match p,h,hT with
  | 0,⟨n,e,h⟩,hT=>exact⟨n,e,hT n h⟩
  | 1,⟨n,e,h⟩,hT=>exact⟨n,e,hT n (hy.trans e) h⟩
  | _+2,⟨n,e,h⟩,hT=>exact⟨n,e,hT n h⟩
theorem Env.callT {f:Nat} {args:Array Value} {R:Ending→Prop} (h:Env B q most flags w0 κ0 Kp x w) (hc:∀κ,Bd B q most flags κ x w→Tn κ0 κ w0 w→Env B q most flags w κ Kp x w→Calls prog f args w fun r w'=>R r∧j1 B q most flags κ y w w') :
 Calls prog f args w fun r w'=>R r∧Env B q most flags w0 κ0 Kp y w':=by
 obtain⟨κ,h1,h2,h3⟩:=h
 refine (hc κ h1 h2 ⟨κ,h1,Tn.refl _ _,h3⟩).mono fun r w' hr=>⟨hr.1,?_⟩
 obtain⟨κ1,k1,k2⟩:=hr.2
 exact⟨κ1,k1,h2.trans k2,fun z hz=>⟨k2.1.heap (h3 z hz).1 (fun e=>e (h3 z hz).2),(k2.2 z.1 (Array.getElem?_eq_some_iff.1 (h3 z hz).1).1).trans (h3 z hz).2⟩⟩
theorem zP.tn {κ κ1:Nat→Nat} {w w':World} {lv:Value} (h:zP κ w lv) (ht:Tn κ κ1 w w'):zP κ1 w' lv:=fun ad n c e=>⟨Nat.lt_of_lt_of_le (h ad n c e).1 ht.1.size,(ht.2 _ (h ad n c e).1).trans (h ad n c e).2⟩
theorem YC {κ κ1:Nat→Nat} {w w':World} {lv:Value} {l:List V3} (hv:ValsAt w lv l) (h:zP κ w lv) (ht:Tn κ κ1 w w'):ValsAt w' lv l:=vR hv ht.1 (fun ad n c e hk=>hk (h ad n c e).2)
theorem set3 {w:World} {n:Nat} {t:TypeId} {a b c d e f:Value} (h:w.heap[n]? = some (.cells #[a,b,c] t (0,0))):(((w.setCell ⟨n,0,none⟩ d).setCell ⟨n,1,none⟩ e).setCell ⟨n,2,none⟩ f).heap[n]? = some (.cells #[d,e,f] t (0,0)):=by
 have h1:=heap_setCell_same w n 0 _ _ d h
 have h2:=heap_setCell_same _ n 1 _ _ e h1
 have h3:=heap_setCell_same _ n 2 _ _ f h2
 simpa using h3
theorem gB (w:World) (n:Nat) (d e f:Value):Moved (fun k=>k=n) w (((w.setCell ⟨n,0,none⟩ d).setCell ⟨n,1,none⟩ e).setCell ⟨n,2,none⟩ f):=
 Moved.setCell (p:=⟨n,2,none⟩) (Moved.setCell (p:=⟨n,1,none⟩) (Moved.setCell (p:=⟨n,0,none⟩) (Moved.refl (fun k=>k=n) _) (fun _=>rfl) _) (fun _=>rfl) _) (fun _=>rfl) _
def yK (B:Nat) (q:kE) (most flags:Int) (w0:World) (κ0:Nat→Nat) (Kp:List (Nat × Obj)) (o:Obj) (x:BS) (n:Nat) (w:World):Prop:=(w0.heap.size≤n∧∀z∈Kp,z.1≠n)∧Env B q most flags w0 κ0 ((n,o)::Kp) x w
theorem yK.grew {o:Obj}:∀n w w',jB w w'→yK B q most flags w0 κ0 Kp o x n w→yK B q most flags w0 κ0 Kp o x n w':=fun _ _ _ hg h=>⟨h.1,h.2.grew hg⟩
theorem Env.newE (h:Env B q most flags w0 κ0 Kp x w) (o:Obj):yK B q most flags w0 κ0 Kp o x w.heap.size (w.alloc o):=
 ⟨⟨h.size,fun z hz e=>by have:=(Array.getElem?_eq_some_iff.1 (h.kp (n:=z.1) (o:=z.2) hz)).1;omega⟩,h.add o⟩
theorem yK.all {o:Obj} (hA:eG B q most flags w0 κ0 x y w w'):∀n,yK B q most flags w0 κ0 Kp o x n w→yK B q most flags w0 κ0 Kp o y n w':=fun _ h=>⟨h.1,hA _ h.2⟩
theorem yK.env {o:Obj} {n:Nat} (h:yK B q most flags w0 κ0 Kp o x n w):Env B q most flags w0 κ0 Kp x w:=by
 obtain⟨_,κ,h1,h2,h3⟩:=h
 exact⟨κ,h1,h2,fun z hz=>h3 z (List.mem_cons_of_mem _ hz)⟩
theorem yK.tell {o o':Obj} {n:Nat} (h:yK B q most flags w0 κ0 Kp o x n w) (hm:Moved (fun k=>k=n) w w') (ho:w'.heap[n]? = some o'):yK B q most flags w0 κ0 Kp o' x n w':=by
 obtain⟨⟨hn,hk⟩,κ,h1,h2,h3⟩:=h
 have hz:κ n=0:=(h3 _ List.mem_cons_self).2
 have hd:∀c,c≠0→∀k,κ k=c→¬k=n:=fun c hc k hk e=>hc (by rw[← hk,e];exact hz)
 refine⟨⟨hn,hk⟩,κ,⟨fun k hk=>⟨(h1.lt k hk).1,Nat.lt_of_lt_of_le (h1.lt k hk).2 hm.size⟩,h1.ok,h1.self.kept hm (hd 1 (by decide)),h1.buf.kept hm (hd 2 (by decide)),h1.stk.kept hm (hd 3 (by decide)),h1.keys.kept hm (hd 4 (by decide)),h1.texts.kept hm (hd 5 (by decide)),h1.lists.kept hm (hd 6 (by decide)),h1.names.kept hm (hd 7 (by decide))⟩,
  ⟨h2.1.trans hm (fun j hj e=>by omega),h2.2⟩,fun z hz'=>?_⟩
 rcases List.mem_cons.1 hz' with rfl|hz'
 ·exact⟨ho,hz⟩
 ·exact⟨hm.heap (h3 z (List.mem_cons_of_mem _ hz')).1 (fun e=>hk z hz' e),(h3 z (List.mem_cons_of_mem _ hz')).2⟩
end
theorem eH {B:Nat} {q:kE} {most flags:Int} {κ:Nat→Nat} {x:BS} {w:World} (n1 n2 n3 n4:Nat) (elem many:Int) (lv:Value) (l:List V3) (hF:eE elem many l) (hv:ValsAt w lv l) (ha:zP κ w lv) (j9:l.length≤1048576) (hok:∀v∈l,okV v) (hg:x.Good) (hx:x.e=0) (he:Env B q most flags w κ [(n4,Obj.cells #[lv] 51 (0,0)),(n3,Obj.cells #[.int .i64 many] 3 (0,0)),(n2,Obj.cells #[.int .i64 elem] 3 (0,0)),(n1,Obj.cells #[jF q.p] 23 (0,0))] x w):Calls prog 114 #[.pointer (some ⟨n1,0,none⟩),.pointer (some ⟨n2,0,none⟩),.pointer (some ⟨n3,0,none⟩),.pointer (some ⟨n4,0,none⟩)] w fun r w'=>r=.returned (.tuple #[])∧j1 B q most flags κ (x.vector most elem many l) w w':=by
 have HE:=zh he
 have HM4:Hid ((n4,Obj.cells #[lv] 51 (0,0))∈([(n4,Obj.cells #[lv] 51 (0,0)),(n3,Obj.cells #[.int .i64 many] 3 (0,0)),(n2,Obj.cells #[.int .i64 elem] 3 (0,0)),(n1,Obj.cells #[jF q.p] 23 (0,0))]:List (Nat × Obj))):=List.mem_cons_self
 have HM3:Hid ((n3,Obj.cells #[.int .i64 many] 3 (0,0))∈([(n4,Obj.cells #[lv] 51 (0,0)),(n3,Obj.cells #[.int .i64 many] 3 (0,0)),(n2,Obj.cells #[.int .i64 elem] 3 (0,0)),(n1,Obj.cells #[jF q.p] 23 (0,0))]:List (Nat × Obj))):=List.mem_cons_of_mem _ (List.mem_cons_self)
 have HM2:Hid ((n2,Obj.cells #[.int .i64 elem] 3 (0,0))∈([(n4,Obj.cells #[lv] 51 (0,0)),(n3,Obj.cells #[.int .i64 many] 3 (0,0)),(n2,Obj.cells #[.int .i64 elem] 3 (0,0)),(n1,Obj.cells #[jF q.p] 23 (0,0))]:List (Nat × Obj))):=List.mem_cons_of_mem _ (List.mem_cons_of_mem _ (List.mem_cons_self))
 have HM1:Hid ((n1,Obj.cells #[jF q.p] 23 (0,0))∈([(n4,Obj.cells #[lv] 51 (0,0)),(n3,Obj.cells #[.int .i64 many] 3 (0,0)),(n2,Obj.cells #[.int .i64 elem] 3 (0,0)),(n1,Obj.cells #[jF q.p] 23 (0,0))]:List (Nat × Obj))):=List.mem_cons_of_mem _ (List.mem_cons_of_mem _ (List.mem_cons_of_mem _ (List.mem_cons_self)))
 have HPV:Hid (∀Kp w2,Env B q most flags w κ Kp x w2→Calls prog 115 #[jF q.b,.int .i64 elem,.int .i64 many,lv] w2 fun r w'=>r=.returned (zM (zC most elem many l x.s).1)∧eG B q most flags w κ x {x with s:=(zC most elem many l x.s).2} w2 w'):=fun Kp w2 h=>h.vput hF hv ha j9 hok (hg.s0 hx)
 have HVO:Hid (okV (zC most elem many l x.s).1.1):=bB he.ok.len he.ok.m1
 have HY:Hid (x.vector most elem many l=(({x with s:=(zC most elem many l x.s).2}:BS).fail (zC most elem many l x.s).1.2).push (zC most elem many l x.s).1.1):=by show _=_;unfold BS.vector;rw[if_pos hx]
 generalize zC most elem many l x.s=PP at HPV HVO HY
 obtain⟨⟨⟨ty,wd,n⟩,ee⟩,s1⟩:=PP
 clear he hx hg hv ha hF hok
 go_enter func114,ntmps114
 go_wp2_with fail
 refine jO [8,13] (zX B q most flags w κ [(n4,Obj.cells #[lv] 51 (0,0)),(n3,Obj.cells #[.int .i64 many] 3 (0,0)),(n2,Obj.cells #[.int .i64 elem] 3 (0,0)),(n1,Obj.cells #[jF q.p] 23 (0,0))] [x] ({x with s:=s1})) (fun _ w w'=>jB w w') (NewT 12 (yK B q most flags w κ [(n4,Obj.cells #[lv] 51 (0,0)),(n3,Obj.cells #[.int .i64 many] 3 (0,0)),(n2,Obj.cells #[.int .i64 elem] 3 (0,0)),(n1,Obj.cells #[jF q.p] 23 (0,0))] (.cells #[.int .i64 0,.int .i64 0,.int .u64 0] 92 (0,0)) (x)) (yK B q most flags w κ [(n4,Obj.cells #[lv] 51 (0,0)),(n3,Obj.cells #[.int .i64 many] 3 (0,0)),(n2,Obj.cells #[.int .i64 elem] 3 (0,0)),(n1,Obj.cells #[jF q.p] 23 (0,0))] (.cells #[.int .i64 0,.int .i64 0,.int .u64 0] 92 (0,0)) ({x with s:=s1})) (yK B q most flags w κ [(n4,Obj.cells #[lv] 51 (0,0)),(n3,Obj.cells #[.int .i64 many] 3 (0,0)),(n2,Obj.cells #[.int .i64 elem] 3 (0,0)),(n1,Obj.cells #[jF q.p] 23 (0,0))] (.cells #[.int .i64 ty,.int .i64 wd,.int .u64 n] 92 (0,0)) ({x with s:=s1}))) [[],[0],[0,1],[0,1,2],[0,1,2,3],[],[],[],[0,1,2,3,4,5,6,7],[0,1,2,3,4,5,6,7,8],[0,1,2,3,4,5,6,7,8,9],[0,1,2,3,4,5,6,7,8,9],[],[0,1,2,3,4,5,6,7,8,9,10,12],[0,1,2,3,4,5,6,7,8,9,10,11,12,13]] [[(12,5),(13,6),(14,7),(4,12)],[(7,0),(12,5),(13,6),(14,7),(4,12)],[(7,0),(8,1),(12,5),(13,6),(14,7),(4,12)],[(7,0),(8,1),(9,2),(12,5),(13,6),(14,7),(4,12)],[(7,0),(8,1),(9,2),(10,3),(12,5),(13,6),(14,7),(4,12)],[(7,0),(8,1),(9,2),(10,3),(11,4),(13,6),(14,7),(4,12)],[(7,0),(8,1),(9,2),(10,3),(11,4),(12,5),(14,7),(4,12)],[(7,0),(8,1),(9,2),(10,3),(11,4),(12,5),(13,6),(4,12)],[(7,0),(8,1),(9,2),(10,3),(11,4),(12,5),(13,6),(14,7),(4,12)],[(7,0),(8,1),(9,2),(10,3),(11,4),(12,5),(13,6),(14,7),(15,8),(4,12)],[(7,0),(8,1),(9,2),(10,3),(11,4),(12,5),(13,6),(14,7),(15,8),(6,9),(17,11),(4,12)],[(7,0),(8,1),(9,2),(10,3),(11,4),(12,5),(13,6),(14,7),(15,8),(6,9),(16,10),(4,12)],[(7,0),(8,1),(9,2),(10,3),(11,4),(12,5),(13,6),(14,7),(15,8),(6,9),(16,10),(17,11)],[(7,0),(8,1),(9,2),(10,3),(11,4),(12,5),(13,6),(14,7),(15,8),(6,9),(16,10),(17,11),(4,12)],[(7,0),(8,1),(9,2),(10,3),(11,4),(12,5),(13,6),(14,7),(15,8),(6,9),(16,10),(17,11),(4,12)]] [(7,0),(8,1),(9,2),(10,3),(11,4),(12,5),(13,6),(14,7),(15,8),(6,9),(16,10),(17,11),(4,12),(5,14)]
  [IsP (jF q.p),IsP (jF q.p),IsP (jF q.p),IsP (jF q.p),IsP (jF q.b),IsP (.int .i64 elem),IsP (.int .i64 many),IsP (lv),IsP (.tuple #[.agg #[.int .i64 ty,.int .i64 wd,.int .u64 n],.int .i64 ee]),IsP (.tuple #[.agg #[.int .i64 ty,.int .i64 wd,.int .u64 n],.int .i64 ee]),IsP (.agg #[.int .i64 ty,.int .i64 wd,.int .u64 n]),IsP (.int .i64 ee),ZP (yK B q most flags w κ [(n4,Obj.cells #[lv] 51 (0,0)),(n3,Obj.cells #[.int .i64 many] 3 (0,0)),(n2,Obj.cells #[.int .i64 elem] 3 (0,0)),(n1,Obj.cells #[jF q.p] 23 (0,0))] (.cells #[.int .i64 0,.int .i64 0,.int .u64 0] 92 (0,0)) (x)) (yK B q most flags w κ [(n4,Obj.cells #[lv] 51 (0,0)),(n3,Obj.cells #[.int .i64 many] 3 (0,0)),(n2,Obj.cells #[.int .i64 elem] 3 (0,0)),(n1,Obj.cells #[jF q.p] 23 (0,0))] (.cells #[.int .i64 0,.int .i64 0,.int .u64 0] 92 (0,0)) ({x with s:=s1})) (yK B q most flags w κ [(n4,Obj.cells #[lv] 51 (0,0)),(n3,Obj.cells #[.int .i64 many] 3 (0,0)),(n2,Obj.cells #[.int .i64 elem] 3 (0,0)),(n1,Obj.cells #[jF q.p] 23 (0,0))] (.cells #[.int .i64 ty,.int .i64 wd,.int .u64 n] 92 (0,0)) ({x with s:=s1})),fun _ _ _=>True,IsP (.int .i64 ee)]
  zk (zX.grew) (HE.out.grew (jB.refl _).drew) zk zk ⟨jC,jC,jC,jC,jC,jC,jC,jC,jC,jC,jC,jC,ZP.st yK.grew yK.grew yK.grew,⟨fun _ _ _ _ _ h=>h,fun _ _ _ _ _ h=>h⟩,jC,trivial⟩ rfl ?_ ?_
 ·intro y w2 hW hF
  simp only[kT,IsP,Nat.reduceAdd,List.length_cons,List.length_nil] at hF hW
  have h0:=hF.1
  have h1:=hF.2.1
  have h2:=hF.2.2.1
  have h3:=hF.2.2.2.1
  have h4:=hF.2.2.2.2.1
  have h5:=hF.2.2.2.2.2.1
  have h6:=hF.2.2.2.2.2.2.1
  have h7:=hF.2.2.2.2.2.2.2.1
  have h8:=hF.2.2.2.2.2.2.2.2.1
  have h9:=hF.2.2.2.2.2.2.2.2.2.1
  have h10:=hF.2.2.2.2.2.2.2.2.2.2.1
  have h11:=hF.2.2.2.2.2.2.2.2.2.2.2.1
  have h12:=hF.2.2.2.2.2.2.2.2.2.2.2.2.1
  have h14:=hF.2.2.2.2.2.2.2.2.2.2.2.2.2.2.1
  clear hF
  simp only[jA,Act.put,zq1,zq2,zq3,zq4,zq5]
  simp only[h0,h1,h2,h3,h4,h5,h6,h7,h8,h9,h10,h11,h14]
  clear h0 h1 h2 h3 h4 h5 h6 h7 h8 h9 h10 h11 h14
  obtain⟨nn,e12,hE⟩:=(show ZP _ _ _ 2 _ _ from h12)
  simp only[e12]
  have HE2:=zh hE.2
  clear h12 e12 hE hW
  have HM1b:Hid ((n1,Obj.cells #[jF q.p] 23 (0,0))∈(((nn,Obj.cells #[.int .i64 ty,.int .i64 wd,.int .u64 n] 92 (0,0))::[(n4,Obj.cells #[lv] 51 (0,0)),(n3,Obj.cells #[.int .i64 many] 3 (0,0)),(n2,Obj.cells #[.int .i64 elem] 3 (0,0)),(n1,Obj.cells #[jF q.p] 23 (0,0))]):List (Nat × Obj))):=List.mem_cons_of_mem _ HM1.out
  have cb:=Env.cell HE2.out HM1b.out 0 _ rfl
  go_wp2_with fail
  refine (HE2.out.call fun κ1 hb hz=>kN ee hb).mono ?_
  rintro r w3 ⟨rfl,he⟩
  have HE3:=zh he
  clear he cb
  go_wp2_with fail
  refine jO [4] (zX B q most flags w κ ((nn,Obj.cells #[.int .i64 ty,.int .i64 wd,.int .u64 n] 92 (0,0))::[(n4,Obj.cells #[lv] 51 (0,0)),(n3,Obj.cells #[.int .i64 many] 3 (0,0)),(n2,Obj.cells #[.int .i64 elem] 3 (0,0)),(n1,Obj.cells #[jF q.p] 23 (0,0))]) [(({x with s:=s1}:BS).fail ee)] ((({x with s:=s1}:BS).fail ee).push (ty,wd,n))) (fun _ w w'=>jB w w') ((fun p (_:Nat→Value)=>(fun _ _ _=>True) p)) [[],[0],[0,1],[],[0,1,2,3]] [[(26,3)],[(23,0),(26,3)],[(23,0),(24,1),(26,3)],[(23,0),(24,1),(25,2)],[(23,0),(24,1),(25,2),(26,3)]] [(23,0),(24,1),(25,2),(26,3),(27,4)]
   [IsP (jF q.p),IsP (jF q.p),IsP (jF q.p),IsP (.agg #[.int .i64 ty,.int .i64 wd,.int .u64 n]),IsP (.tuple #[])]
   zk (zX.grew) (HE3.out.grew (jB.refl _).drew) zk zk ⟨jC,jC,jC,jC,jC,trivial⟩ rfl ?_ ?_
  ·intro y w2 hW hF
   simp only[kT,IsP,Nat.reduceAdd,List.length_cons,List.length_nil] at hF hW
   have h0:=hF.1
   have h1:=hF.2.1
   have h2:=hF.2.2.1
   have h3:=hF.2.2.2.1
   have h4:=hF.2.2.2.2.1
   clear hF
   simp only[jA,Act.put,zq1,zq2,zq3,zq4,zq5]
   simp only[h0,h1,h2,h3,h4]
   clear h0 h1 h2 h3 h4
   go_wp2
   go_end0
   exact⟨rfl,by rw[HY.out];exact Env.turn hW⟩
  refine⟨?_,?_⟩
  ·refine jJ 0 0 ?_
   intro y w2 p hlo hhi hW hD K hK
   have dq:=Env.cell hW HM1b.out 0 _ rfl
   exact zqr
  refine⟨zqd,zqd,?_⟩
  refine⟨?_,?_⟩
  ·refine jJ 0 0 ?_
   intro y w2 p hlo hhi hW hD K hK
   have dd0:=Env.cell hW List.mem_cons_self 0 _ rfl
   have dd1:=Env.cell hW List.mem_cons_self 1 _ rfl
   have dd2:=Env.cell hW List.mem_cons_self 2 _ rfl
   exact zqr
  refine⟨?_,?_⟩
  ·refine jP 0 rfl ?_
   intro y w2 hW hD K hK
   simp only[jU,zq4,zq5,IsP] at hD
   have h0:=hD.1
   have h1:=hD.2.1
   have h2:=hD.2.2.1
   have h3:=hD.2.2.2.1
   clear hD
   generalize hAA:jA y _ _=AA at hK⊢
   simp only[jA,Act.put,zq1,zq2,zq3,zq4,zq5,IsP] at hAA
   subst hAA
   simp only[zq4,zq5,IsP] at hK
   simp only[h0,h1,h2,h3] at hK⊢
   clear h0 h1 h2 h3
   refine jG ?_
   go_simp
   refine (Env.call hW fun κ1 hb hz=>qD (ty,wd,n) HVO.out hb).mono ?_
   rintro r w3 ⟨rfl,he⟩
   exact hK _ _ _ rfl trivial he rfl
  trivial
 refine⟨?_,?_⟩
 ·refine jJ 0 0 ?_
  intro y w2 p hlo hhi hW hD K hK
  have d10:=Env.cell hW HM1.out 0 _ rfl
  exact zqr
 refine⟨zqd,zqd,zqd,?_⟩
 refine⟨?_,?_⟩
 ·refine jJ 0 0 ?_
  intro y w2 p hlo hhi hW hD K hK
  have dd:=Env.at0 hW
  exact zqr
 refine⟨?_,?_⟩
 ·refine jJ 0 0 ?_
  intro y w2 p hlo hhi hW hD K hK
  have d20:=Env.cell hW HM2.out 0 _ rfl
  exact zqr
 refine⟨?_,?_⟩
 ·refine jJ 0 0 ?_
  intro y w2 p hlo hhi hW hD K hK
  have d30:=Env.cell hW HM3.out 0 _ rfl
  exact zqr
 refine⟨?_,?_⟩
 ·refine jJ 0 0 ?_
  intro y w2 p hlo hhi hW hD K hK
  have d40:=Env.cell hW HM4.out 0 _ rfl
  exact zqr
 refine⟨?_,?_⟩
 ·refine jP 0 rfl ?_
  intro y w2 hW hD K hK
  simp only[jU,zq4,zq5,IsP] at hD
  have h0:=hD.1
  have h1:=hD.2.1
  have h2:=hD.2.2.1
  have h3:=hD.2.2.2.1
  have h4:=hD.2.2.2.2.1
  have h5:=hD.2.2.2.2.2.1
  have h6:=hD.2.2.2.2.2.2.1
  have h7:=hD.2.2.2.2.2.2.2.1
  clear hD
  generalize hAA:jA y _ _=AA at hK⊢
  simp only[jA,Act.put,zq1,zq2,zq3,zq4,zq5,IsP] at hAA
  subst hAA
  simp only[zq4,zq5,IsP] at hK
  simp only[h0,h1,h2,h3,h4,h5,h6,h7] at hK⊢
  clear h0 h1 h2 h3 h4 h5 h6 h7
  refine jG ?_
  go_simp
  refine (HPV.out _ w2 hW).mono ?_
  rintro r w3 ⟨rfl,hA⟩
  exact hK _ _ _ rfl (yK.all hA) (hA _ hW) rfl
 refine⟨zqd,zqd,zqd,?_⟩
 refine⟨?_,?_⟩
 ·refine jJ 0 1 ?_
  intro y w2 p hlo hhi hW hD K hK
  clear hD
  generalize hAA:jA y _ _=AA at hK⊢
  simp only[jA,Act.put,zq1,zq2,zq3,zq4,zq5,IsP] at hAA
  subst hAA
  simp only[zq4,zq5,IsP] at hK
  refine jG ?_
  go_simp
  rcases (by omega:p=0∨p=1) with rfl|rfl
  ·exact hK _ _ _ rfl ((jB.refl _).alloc _) (show ZP _ _ _ 0 _ _ from ⟨_,rfl,Env.newE hW _⟩)
  ·exact hK _ _ _ rfl ((jB.refl _).alloc _) (show ZP _ _ _ 1 _ _ from ⟨_,rfl,Env.newE hW _⟩)
 refine⟨?_,?_⟩
 ·refine jP 1 rfl ?_
  intro y w2 hW hD K hK
  simp only[jU,zq4,zq5,IsP] at hD
  have h0:=hD.1
  have h1:=hD.2.1
  have h2:=hD.2.2.1
  have h3:=hD.2.2.2.1
  have h4:=hD.2.2.2.2.1
  have h5:=hD.2.2.2.2.2.1
  have h6:=hD.2.2.2.2.2.2.1
  have h7:=hD.2.2.2.2.2.2.2.1
  have h8:=hD.2.2.2.2.2.2.2.2.1
  have h9:=hD.2.2.2.2.2.2.2.2.2.1
  have h10:=hD.2.2.2.2.2.2.2.2.2.2.1
  have h12:=hD.2.2.2.2.2.2.2.2.2.2.2.1
  clear hD
  generalize hAA:jA y _ _=AA at hK⊢
  simp only[jA,Act.put,zq1,zq2,zq3,zq4,zq5,IsP] at hAA
  subst hAA
  simp only[zq4,zq5,IsP] at hK
  simp only[h0,h1,h2,h3,h4,h5,h6,h7,h8,h9,h10] at hK⊢
  clear h0 h1 h2 h3 h4 h5 h6 h7 h8 h9 h10
  obtain⟨nn,e12,hE⟩:=h12
  simp only[e12] at hK⊢
  have jL:=hE.2.kp List.mem_cons_self
  have f0:=jE jL 0
  have f1:=jE jL 1
  have f2:=jE jL 2
  have c0:=jK jL 0 _ rfl
  have c1:=jK jL 1 _ rfl
  have c2:=jK jL 2 _ rfl
  clear jL
  refine jG ?_
  go_simp
  have hs:=yK.tell hE (gB w2 nn (.int .i64 ty) (.int .i64 wd) (.int .u64 n)) (set3 (hE.2.kp List.mem_cons_self))
  exact hK _ undef _ rfl (fun n' e' _=>by rw[e12] at e';cases e';exact hs) hs.env trivial
 refine⟨zqd,?_⟩
 trivial
theorem qX {B:Nat} {q:kE} {most flags:Int} {κ:Nat→Nat} {x:BS} {w:World} (elem many:Int) (lv:Value) (l:List V3) (hF:eE elem many l) (hv:ValsAt w lv l) (ha:zP κ w lv) (j9:l.length≤1048576) (hok:∀v∈l,okV v) (hg:x.Good) (h:Bd B q most flags κ x w):Calls prog 63 #[jF q.p,.int .i64 elem,.int .i64 many,lv] w fun r w'=>r=.returned (.tuple #[])∧j1 B q most flags κ (x.vector most elem many l) w w':=by
 have hv0:=hv
 obtain⟨la,lc,rfl,_⟩:=hv0
 have HF:=zh hF
 have HVA:=zh (And.intro hv ha)
 have HF2:=zh (And.intro j9 (And.intro hok hg))
 have HE:Hid (Env B q most flags w κ [(w.heap.size+3,Obj.cells #[(.slice la l.length lc)] 51 (0,0)),(w.heap.size+2,Obj.cells #[.int .i64 many] 3 (0,0)),(w.heap.size+1,Obj.cells #[.int .i64 elem] 3 (0,0)),(w.heap.size,Obj.cells #[jF q.p] 23 (0,0))] x ((((w.alloc (.cells #[jF q.p] 23)).alloc (.cells #[.int .i64 elem] 3)).alloc (.cells #[.int .i64 many] 3)).alloc (.cells #[(.slice la l.length lc)] 51))):=by
  have hh:=((((Env.start h).add (.cells #[jF q.p] 23)).add (.cells #[.int .i64 elem] 3)).add (.cells #[.int .i64 many] 3)).add (.cells #[(.slice la l.length lc)] 51)
  simp only[World.size_alloc,Nat.add_assoc,Nat.reduceAdd] at hh
  exact hh
 clear h hF hv ha j9 hok hg
 go_enter func63,ntmps63
 go_wp2_with fail
 refine (HE.out.callT fun κ1 hb ht he=>k8 hb _ _ (x.vector most elem many l) (fun hx=>by unfold BS.vector;rw[if_neg hx]) (fun _=>enters_of func114 zk rfl _ _) (fun hx=>eH _ _ _ _ _ _ _ _ HF.out (YC HVA.out.1 HVA.out.2 ht) (HVA.out.2.tn ht) HF2.out.1 HF2.out.2.1 HF2.out.2.2 hx he)).mono ?_
 rintro r w5 ⟨rfl,he⟩
 have HT:=zh he
 clear he
 go_wp2
 go_end0
 exact⟨rfl,HT.out.turn⟩
theorem qY {B:Nat} {q:kE} {most flags:Int} {κ:Nat→Nat} {x:BS} {w w':World} {v:Value} {l:List V3} (h:Bd B q most flags κ x w) (ho:jQ w' w.heap.size v l) (hg:jB w w'):zP κ w' v:=by
 rintro ad n c rfl
 rcases ho.2 with ⟨e,_⟩|⟨g,cap,cur,e,hge,hh,_⟩
 ·cases e
 ·cases e
  exact⟨(Array.getElem?_eq_some_iff.1 hh).1,Decidable.byContradiction fun hk=>by have h2:g < w.heap.size:=(h.lt _ hk).2;have h3:w.heap.size≤g:=hge;omega⟩
theorem lG {B:Nat} {q:kE} {most flags:Int} {κ:Nat→Nat} {x:BS} {w:World} (l:List Int) (lv:Value) (hp:yA (fun x=>.int .i64 x) w lv l) (hb:∀x∈l,-9223372036854775808≤x∧x≤9223372036854775807) (hl:l.length≤1048576) (hg:x.Good) (h:Bd B q most flags κ x w):Calls prog 40 #[jF q.p,lv] w fun r w'=>r=.returned (.tuple #[])∧j1 B q most flags κ (x.vector most 1 0 (l.map yG)) w w':=by
 have HB:=zh h
 have HH:=zh hg
 have HL:=zh hl
 have HOK:Hid (∀v∈l.map yG,okV v):=by
  intro v hv
  obtain⟨x,hx,rfl⟩:=List.mem_map.1 hv
  exact QP x (hb x hx).1 (hb x hx).2
 have HM:=zh (eC l lv w hp hb hl)
 have hp0:=hp
 obtain⟨la,lc,rfl,_⟩:=hp0
 clear h hg hp hb hl
 go_enter func40,ntmps40
 go_wp2_with fail
 refine HM.out.mono ?_
 rintro r w1 ⟨v',rfl,ho,hgr⟩
 have HO:=zh (And.intro ho hgr)
 clear ho hgr
 go_wp2_with fail
 refine (qX 1 0 v' (l.map yG) (.inr (.inl ⟨by decide,rfl,by kernel_rfl⟩)) HO.out.1.vals (qY HB.out HO.out.1 HO.out.2) (by rw[List.length_map];exact HL.out) HOK.out HH.out (HB.out.grew HO.out.2)).mono ?_
 rintro r w2 ⟨rfl,ht⟩
 have HT:=zh (ht.after HO.out.2)
 clear ht
 go_wp2
 go_end0
 exact⟨rfl,HT.out⟩
theorem gC {B:Nat} {q:kE} {most flags:Int} {κ:Nat→Nat} {x:BS} {w:World} (l:List Int) (lv:Value) (hp:yA (fun x=>.int .u64 x) w lv l) (hb:∀x∈l,0≤x∧x≤18446744073709551615) (hl:l.length≤1048576) (hg:x.Good) (h:Bd B q most flags κ x w):Calls prog 42 #[jF q.p,lv] w fun r w'=>r=.returned (.tuple #[])∧j1 B q most flags κ (x.vector most 2 0 (l.map yJ)) w w':=by
 have HB:=zh h
 have HH:=zh hg
 have HL:=zh hl
 have HOK:Hid (∀v∈l.map yJ,okV v):=by
  intro v hv
  obtain⟨x,hx,rfl⟩:=List.mem_map.1 hv
  exact QQ x (hb x hx).1 (hb x hx).2
 have HM:=zh (eD l lv w hp hb hl)
 have hp0:=hp
 obtain⟨la,lc,rfl,_⟩:=hp0
 clear h hg hp hb hl
 go_enter func42,ntmps42
 go_wp2_with fail
 refine HM.out.mono ?_
 rintro r w1 ⟨v',rfl,ho,hgr⟩
 have HO:=zh (And.intro ho hgr)
 clear ho hgr
 go_wp2_with fail
 refine (qX 2 0 v' (l.map yJ) (.inr (.inl ⟨by decide,rfl,by kernel_rfl⟩)) HO.out.1.vals (qY HB.out HO.out.1 HO.out.2) (by rw[List.length_map];exact HL.out) HOK.out HH.out (HB.out.grew HO.out.2)).mono ?_
 rintro r w2 ⟨rfl,ht⟩
 have HT:=zh (ht.after HO.out.2)
 clear ht
 go_wp2
 go_end0
 exact⟨rfl,HT.out⟩
theorem gD {B:Nat} {q:kE} {most flags:Int} {κ:Nat→Nat} {x:BS} {w:World} (l:List Bool) (lv:Value) (hp:yA (fun x=>.bool x) w lv l) (hb:∀x∈l,True) (hl:l.length≤1048576) (hg:x.Good) (h:Bd B q most flags κ x w):Calls prog 44 #[jF q.p,lv] w fun r w'=>r=.returned (.tuple #[])∧j1 B q most flags κ (x.vector most 26 0 (l.map zD)) w w':=by
 have HB:=zh h
 have HH:=zh hg
 have HL:=zh hl
 have HOK:Hid (∀v∈l.map zD,okV v):=by
  intro v hv
  obtain⟨x,hx,rfl⟩:=List.mem_map.1 hv
  exact aX x
 have HM:=zh (nD l lv w hp hb hl)
 have hp0:=hp
 obtain⟨la,lc,rfl,_⟩:=hp0
 clear h hg hp hb hl
 go_enter func44,ntmps44
 go_wp2_with fail
 refine HM.out.mono ?_
 rintro r w1 ⟨v',rfl,ho,hgr⟩
 have HO:=zh (And.intro ho hgr)
 clear ho hgr
 go_wp2_with fail
 refine (qX 26 0 v' (l.map zD) (.inr (.inl ⟨by decide,rfl,by kernel_rfl⟩)) HO.out.1.vals (qY HB.out HO.out.1 HO.out.2) (by rw[List.length_map];exact HL.out) HOK.out HH.out (HB.out.grew HO.out.2)).mono ?_
 rintro r w2 ⟨rfl,ht⟩
 have HT:=zh (ht.after HO.out.2)
 clear ht
 go_wp2
 go_end0
 exact⟨rfl,HT.out⟩
theorem YY {B:Nat} {q:kE} {most flags:Int} {κ:Nat→Nat} {x:BS} {w:World} (elem many:Int) (la:Option Addr) (n lc:Nat) (hx0:x.e≠0) (h:Bd B q most flags κ x w):Calls prog 63 #[jF q.p,.int .i64 elem,.int .i64 many,.slice la n lc] w fun r w'=>r=.returned (.tuple #[])∧j1 B q most flags κ (x) w w':=by
 have HX:=zh hx0
 have HE:Hid (Env B q most flags w κ [(w.heap.size+3,Obj.cells #[(.slice la n lc)] 51 (0,0)),(w.heap.size+2,Obj.cells #[.int .i64 many] 3 (0,0)),(w.heap.size+1,Obj.cells #[.int .i64 elem] 3 (0,0)),(w.heap.size,Obj.cells #[jF q.p] 23 (0,0))] x ((((w.alloc (.cells #[jF q.p] 23)).alloc (.cells #[.int .i64 elem] 3)).alloc (.cells #[.int .i64 many] 3)).alloc (.cells #[(.slice la n lc)] 51))):=by
  have hh:=((((Env.start h).add (.cells #[jF q.p] 23)).add (.cells #[.int .i64 elem] 3)).add (.cells #[.int .i64 many] 3)).add (.cells #[(.slice la n lc)] 51)
  simp only[World.size_alloc,Nat.add_assoc,Nat.reduceAdd] at hh
  exact hh
 clear h hx0
 go_enter func63,ntmps63
 go_wp2_with fail
 refine (HE.out.call' fun κ1 hb he=>k8 hb _ _ (x) (fun hx=>rfl) (fun _=>enters_of func114 zk rfl _ _) (fun hx=>absurd hx HX.out)).mono ?_
 rintro r w5 ⟨rfl,he⟩
 have HT:=zh he
 clear he
 go_wp2
 go_end0
 exact⟨rfl,HT.out.turn⟩
theorem gE {B:Nat} {q:kE} {most flags:Int} {κ:Nat→Nat} {x:BS} {w:World} (n1 n2 n3:Nat) (elem:Int) (la:Option Addr) (lc:Nat) (l:List V3) (hne:elem≠-1) (hT:∀n:Nat,2≤n→n≤4→(typedF elem (n:Int)).2=true) (hv:ValsAt w (.slice la l.length lc) l) (ha:zP κ w (.slice la l.length lc)) (j9:l.length≤1048576) (hok:∀v∈l,okV v) (hg:x.Good) (hx:x.e=0) (he:Env B q most flags w κ [(n3,Obj.cells #[(.slice la l.length lc)] 51 (0,0)),(n2,Obj.cells #[.int .i64 elem] 3 (0,0)),(n1,Obj.cells #[jF q.p] 23 (0,0))] x w):Calls prog 162 #[.pointer (some ⟨n3,0,none⟩),.pointer (some ⟨n1,0,none⟩),.pointer (some ⟨n2,0,none⟩)] w fun r w'=>r=.returned (.tuple #[])∧j1 B q most flags κ (x.fixed most elem l) w w':=by
 have HE:=zh he
 have HM3:Hid ((n3,Obj.cells #[(.slice la l.length lc)] 51 (0,0))∈([(n3,Obj.cells #[(.slice la l.length lc)] 51 (0,0)),(n2,Obj.cells #[.int .i64 elem] 3 (0,0)),(n1,Obj.cells #[jF q.p] 23 (0,0))]:List (Nat × Obj))):=List.mem_cons_self
 have HM2:Hid ((n2,Obj.cells #[.int .i64 elem] 3 (0,0))∈([(n3,Obj.cells #[(.slice la l.length lc)] 51 (0,0)),(n2,Obj.cells #[.int .i64 elem] 3 (0,0)),(n1,Obj.cells #[jF q.p] 23 (0,0))]:List (Nat × Obj))):=List.mem_cons_of_mem _ (List.mem_cons_self)
 have HM1:Hid ((n1,Obj.cells #[jF q.p] 23 (0,0))∈([(n3,Obj.cells #[(.slice la l.length lc)] 51 (0,0)),(n2,Obj.cells #[.int .i64 elem] 3 (0,0)),(n1,Obj.cells #[jF q.p] 23 (0,0))]:List (Nat × Obj))):=List.mem_cons_of_mem _ (List.mem_cons_of_mem _ (List.mem_cons_self))
 have HVA:=zh (And.intro hv ha)
 have HF2:=zh (And.intro j9 (And.intro hok hg))
 have cb:=Env.cell he HM1.out 0 _ rfl
 have ce:=Env.cell he HM2.out 0 _ rfl
 have cl:=Env.cell he HM3.out 0 _ rfl
 have HX:=zh hx
 have hll:l.length≤9223372036854775807:=by omega
 by_cases hb2:l.length < 2∨4 < l.length
 ·have HY:Hid (x.fixed most elem l=x.fail 2):=by show _=_;unfold BS.fixed;rw[if_pos hx,if_pos hb2]
  have HN:Hid ((x.fail 2).e≠0):=by show _≠_;unfold BS.fail kF;rw[if_pos hx];show (2:Int)≠0;decide
  clear he hv ha j9 hok hg hT hx
  rcases hb2 with h2|h4
  ·have h2i:(l.length:Int) < 2:=by omega
   go_enter func162,ntmps162
   go_wp2_with fail
   refine (HE.out.call fun κ1 hb hz=>kN 2 hb).mono ?_
   rintro r w2 ⟨rfl,he⟩
   have HE2:=zh he
   clear he cb ce cl
   have cb:=Env.cell HE2.out HM1.out 0 _ rfl
   have ce:=Env.cell HE2.out HM2.out 0 _ rfl
   have cl:=Env.cell HE2.out HM3.out 0 _ rfl
   go_wp2_with fail
   refine (HE2.out.call fun κ1 hb hz=>YY _ _ _ _ _ HN.out hb).mono ?_
   rintro r w3 ⟨rfl,he⟩
   have HE3:=zh he
   clear he
   go_wp2
   go_end0
   exact⟨rfl,by rw[HY.out];exact HE3.out.turn⟩
  ·have h2i:¬(l.length:Int) < 2:=by omega
   have h4i:(l.length:Int) > 4:=by omega
   go_enter func162,ntmps162
   go_wp2_with fail
   refine (HE.out.call fun κ1 hb hz=>kN 2 hb).mono ?_
   rintro r w2 ⟨rfl,he⟩
   have HE2:=zh he
   clear he cb ce cl
   have cb:=Env.cell HE2.out HM1.out 0 _ rfl
   have ce:=Env.cell HE2.out HM2.out 0 _ rfl
   have cl:=Env.cell HE2.out HM3.out 0 _ rfl
   go_wp2_with fail
   refine (HE2.out.call fun κ1 hb hz=>YY _ _ _ _ _ HN.out hb).mono ?_
   rintro r w3 ⟨rfl,he⟩
   have HE3:=zh he
   clear he
   go_wp2
   go_end0
   exact⟨rfl,by rw[HY.out];exact HE3.out.turn⟩
 ·have HY:Hid (x.fixed most elem l=x.vector most elem l.length l):=by show _=_;unfold BS.fixed;rw[if_pos hx,if_neg hb2]
  have HF:Hid (eE elem (l.length:Int) l):=.inr (.inr ⟨hne,rfl,by omega,hT _ (by omega) (by omega)⟩)
  have h2i:¬(l.length:Int) < 2:=by omega
  have h4i:¬(l.length:Int) > 4:=by omega
  clear he hv ha j9 hok hg hT hx
  go_enter func162,ntmps162
  go_wp2_with fail
  refine (HE.out.callT fun κ1 hb ht he=>qX _ _ _ _ HF.out (YC HVA.out.1 HVA.out.2 ht) (HVA.out.2.tn ht) HF2.out.1 HF2.out.2.1 HF2.out.2.2 hb).mono ?_
  rintro r w3 ⟨rfl,he⟩
  have HE3:=zh he
  clear he
  go_wp2
  go_end0
  exact⟨rfl,by rw[HY.out];exact HE3.out.turn⟩
theorem bC {B:Nat} {q:kE} {most flags:Int} {κ:Nat→Nat} {x:BS} {w:World} (elem:Int) (la:Option Addr) (lc:Nat) (l:List V3) (hne:elem≠-1) (hT:∀n:Nat,2≤n→n≤4→(typedF elem (n:Int)).2=true) (hv:ValsAt w (.slice la l.length lc) l) (ha:zP κ w (.slice la l.length lc)) (j9:l.length≤1048576) (hok:∀v∈l,okV v) (hg:x.Good) (h:Bd B q most flags κ x w):Calls prog 101 #[jF q.p,.int .i64 elem,(.slice la l.length lc)] w fun r w'=>r=.returned (.tuple #[])∧j1 B q most flags κ (x.fixed most elem l) w w':=by
 have HF:=zh (And.intro hne hT)
 have HVA:=zh (And.intro hv ha)
 have HF2:=zh (And.intro j9 (And.intro hok hg))
 have HE:Hid (Env B q most flags w κ [(w.heap.size+2,Obj.cells #[(.slice la l.length lc)] 51 (0,0)),(w.heap.size+1,Obj.cells #[.int .i64 elem] 3 (0,0)),(w.heap.size,Obj.cells #[jF q.p] 23 (0,0))] x (((w.alloc (.cells #[jF q.p] 23)).alloc (.cells #[.int .i64 elem] 3)).alloc (.cells #[(.slice la l.length lc)] 51))):=by
  have hh:=(((Env.start h).add (.cells #[jF q.p] 23)).add (.cells #[.int .i64 elem] 3)).add (.cells #[(.slice la l.length lc)] 51)
  simp only[World.size_alloc,Nat.add_assoc,Nat.reduceAdd] at hh
  exact hh
 clear h hne hT hv ha j9 hok hg
 go_enter func101,ntmps101
 go_wp2_with fail
 refine (HE.out.callT fun κ1 hb ht he=>k8 hb _ _ (x.fixed most elem l) (fun hx=>by unfold BS.fixed;rw[if_neg hx]) (fun _=>enters_of func162 zk rfl _ _) (fun hx=>gE _ _ _ _ _ _ _ HF.out.1 HF.out.2 (YC HVA.out.1 HVA.out.2 ht) (HVA.out.2.tn ht) HF2.out.1 HF2.out.2.1 HF2.out.2.2 hx he)).mono ?_
 rintro r w5 ⟨rfl,he⟩
 have HT:=zh he
 clear he
 go_wp2
 go_end0
 exact⟨rfl,HT.out.turn⟩
theorem fixT1:∀n:Nat,2≤n→n≤4→(typedF 1 (n:Int)).2=true:=fun n h2 h4=>by
 obtain rfl|rfl|rfl:n=2∨n=3∨n=4:=by omega
 ·show (typedF 1 2).2=true
  kernel_rfl
 ·show (typedF 1 3).2=true
  kernel_rfl
 ·show (typedF 1 4).2=true
  kernel_rfl
theorem fixT2:∀n:Nat,2≤n→n≤4→(typedF 2 (n:Int)).2=true:=fun n h2 h4=>by
 obtain rfl|rfl|rfl:n=2∨n=3∨n=4:=by omega
 ·show (typedF 2 2).2=true
  kernel_rfl
 ·show (typedF 2 3).2=true
  kernel_rfl
 ·show (typedF 2 4).2=true
  kernel_rfl
theorem cE {B:Nat} {q:kE} {most flags:Int} {κ:Nat→Nat} {x:BS} {w:World} (l:List Int) (lv:Value) (hp:yA (fun x=>.int .i64 x) w lv l) (hb:∀x∈l,-9223372036854775808≤x∧x≤9223372036854775807) (hl:l.length≤1048576) (hg:x.Good) (h:Bd B q most flags κ x w):Calls prog 48 #[jF q.p,lv] w fun r w'=>r=.returned (.tuple #[])∧j1 B q most flags κ (x.fixed most 1 (l.map yG)) w w':=by
 have HB:=zh h
 have HH:=zh hg
 have HL:=zh hl
 have HOK:Hid (∀v∈l.map yG,okV v):=by
  intro v hv
  obtain⟨x,hx,rfl⟩:=List.mem_map.1 hv
  exact QP x (hb x hx).1 (hb x hx).2
 have HM:=zh (eC l lv w hp hb hl)
 have hp0:=hp
 obtain⟨la,lc,rfl,_⟩:=hp0
 clear h hg hp hb hl
 go_enter func48,ntmps48
 go_wp2_with fail
 refine HM.out.mono ?_
 rintro r w1 ⟨v',rfl,ho,hgr⟩
 have HO:=zh (And.intro ho hgr)
 clear ho hgr
 go_wp2_with fail
 obtain⟨va,vc,rfl,_⟩:=j8 HO.out.1
 refine (bC 1 va vc (l.map yG) (by decide) fixT1 HO.out.1.vals (qY HB.out HO.out.1 HO.out.2) (by rw[List.length_map];exact HL.out) HOK.out HH.out (HB.out.grew HO.out.2)).mono ?_
 rintro r w2 ⟨rfl,ht⟩
 have HT:=zh (ht.after HO.out.2)
 clear ht
 go_wp2
 go_end0
 exact⟨rfl,HT.out⟩
theorem V7 {B:Nat} {q:kE} {most flags:Int} {κ:Nat→Nat} {x:BS} {w:World} (l:List Int) (lv:Value) (hp:yA (fun x=>.int .u64 x) w lv l) (hb:∀x∈l,0≤x∧x≤18446744073709551615) (hl:l.length≤1048576) (hg:x.Good) (h:Bd B q most flags κ x w):Calls prog 49 #[jF q.p,lv] w fun r w'=>r=.returned (.tuple #[])∧j1 B q most flags κ (x.fixed most 2 (l.map yJ)) w w':=by
 have HB:=zh h
 have HH:=zh hg
 have HL:=zh hl
 have HOK:Hid (∀v∈l.map yJ,okV v):=by
  intro v hv
  obtain⟨x,hx,rfl⟩:=List.mem_map.1 hv
  exact QQ x (hb x hx).1 (hb x hx).2
 have HM:=zh (eD l lv w hp hb hl)
 have hp0:=hp
 obtain⟨la,lc,rfl,_⟩:=hp0
 clear h hg hp hb hl
 go_enter func49,ntmps49
 go_wp2_with fail
 refine HM.out.mono ?_
 rintro r w1 ⟨v',rfl,ho,hgr⟩
 have HO:=zh (And.intro ho hgr)
 clear ho hgr
 go_wp2_with fail
 obtain⟨va,vc,rfl,_⟩:=j8 HO.out.1
 refine (bC 2 va vc (l.map yJ) (by decide) fixT2 HO.out.1.vals (qY HB.out HO.out.1 HO.out.2) (by rw[List.length_map];exact HL.out) HOK.out HH.out (HB.out.grew HO.out.2)).mono ?_
 rintro r w2 ⟨rfl,ht⟩
 have HT:=zh (ht.after HO.out.2)
 clear ht
 go_wp2
 go_end0
 exact⟨rfl,HT.out⟩
theorem bD {B:Nat} {q:kE} {most flags:Int} {κ:Nat→Nat} {x:BS} {w:World} (start:Int) (h:Bd B q most flags κ x w):Calls prog 61 #[jF q.p,.int .i64 start] w fun r w'=>(InR start x.stk.length∧∃v',r=.returned v'∧jQ w' w.heap.size v' (x.stk.drop start.toNat)∧jB w w')∨(¬InR start x.stk.length∧r=.returned (.slice none 0 0)∧j1 B q most flags κ (x.fail 2) w w'):=by
 have HB:=zh h
 have c1:=h.at1
 clear h
 go_enter func61,ntmps61
 go_wp2_with fail
 refine (YR start HB.out.stk HB.out.ok.stk).mono ?_
 rintro r w1 (⟨hin,v',rfl,ho,hg⟩|⟨hin,rfl,hw⟩)
 ·obtain⟨L,hL⟩:∃L,x.stk.drop start.toNat=L:=⟨_,rfl⟩
  rw[hL] at ho
  have HL:=zh hL
  have HO:=zh (And.intro ho hg)
  have HIN:=zh hin
  obtain⟨va,vc,rfl,_⟩:=j8 ho
  clear ho hg hin hL
  go_wp2
  go_ret
  exact .inl ⟨HIN.out,.slice va L.length vc,rfl,by rw[HL.out];exact HO.out.1,HO.out.2⟩
 ·obtain rfl:w=w1:=hw.symm
  have HIN:=zh hin
  clear hin
  go_wp2_with fail
  refine (kN 2 HB.out).mono ?_
  rintro r w2 ⟨rfl,ht⟩
  have HT:=zh ht
  clear ht
  go_wp2
  go_ret
  exact .inr ⟨HIN.out,rfl,HT.out⟩
theorem j1.base {B:Nat} {q:kE} {most flags:Int} {κ κ1:Nat→Nat} {y:BS} {w w1 w2:World} (ht:Tn κ κ1 w w) (hg:jB w w1) (h:j1 B q most flags κ1 y w1 w2):j1 B q most flags κ y w w2:=by
 obtain⟨κ2,k1,k2⟩:=h
 exact⟨κ2,k1,ht.trans ((Tn.of_grew hg).trans k2)⟩
theorem Env.open_ {B:Nat} {q:kE} {most flags:Int} {κ:Nat→Nat} {x:BS} {w:World} {Kp:List (Nat × Obj)} (h:Env B q most flags w κ Kp x w):∃κ1,Bd B q most flags κ1 x w∧Tn κ κ1 w w∧(∀z∈Kp,κ1 z.1=0)∧∀w1,jB w w1→Env B q most flags w1 κ1 Kp x w1:=by
 obtain⟨κ1,h1,h2,h3⟩:=h
 exact⟨κ1,h1,h2,fun z hz=>(h3 z hz).2,fun w1 hg=>⟨κ1,h1.grew hg,Tn.refl _ _,fun z hz=>⟨hg.heap (h3 z hz).1,(h3 z hz).2⟩⟩⟩
theorem eI {B:Nat} {q:kE} {most flags:Int} {κ:Nat→Nat} {x:BS} {w:World} (n:Nat) (h:Bd B q most flags κ x w) (hn:n≤x.stk.length):Calls prog 62 #[jF q.s,.int .i64 n] w fun r w'=>(∃v':Value,r=.returned (.tuple #[v',.int .i64 0]))∧j1 B q most flags κ {x with stk:=x.stk.take (x.stk.length - n)} w w':=
 (mV n h.stk h.ok.stk hn).mono fun r w' ⟨v',e,_,ht⟩=>⟨⟨v',e⟩,h.stk_step (by rw[List.length_take];have:=h.ok.stk;omega) (fun v hv=>h.ok.okS v (List.mem_of_mem_take hv)) ht⟩
theorem eJ {B:Nat} {q:kE} {most flags:Int} {κ:Nat→Nat} {x:BS} {w:World} (n1 n2:Nat) (start:Int) (hg:x.Good) (hx:x.e=0) (he:Env B q most flags w κ [(n2,Obj.cells #[.int .i64 start] 3 (0,0)),(n1,Obj.cells #[jF q.p] 23 (0,0))] x w):Calls prog 60 #[.pointer (some ⟨n1,0,none⟩),.pointer (some ⟨n2,0,none⟩)] w fun r w'=>r=.returned (.tuple #[])∧j1 B q most flags κ (x.endVec most start) w w':=by
 have HM2:Hid ((n2,Obj.cells #[.int .i64 start] 3 (0,0))∈([(n2,Obj.cells #[.int .i64 start] 3 (0,0)),(n1,Obj.cells #[jF q.p] 23 (0,0))]:List (Nat × Obj))):=List.mem_cons_self
 have HM1:Hid ((n1,Obj.cells #[jF q.p] 23 (0,0))∈([(n2,Obj.cells #[.int .i64 start] 3 (0,0)),(n1,Obj.cells #[jF q.p] 23 (0,0))]:List (Nat × Obj))):=List.mem_cons_of_mem _ (List.mem_cons_self)
 have cb:=Env.cell he HM1.out 0 _ rfl
 have cs:=Env.cell he HM2.out 0 _ rfl
 obtain⟨κ1,hb,ht,hz,hall⟩:=he.open_
 have HB:=zh hb
 have HTN:=zh ht
 have HALL:=zh hall
 have HZ:=zh hz
 have HE0:=zh he
 have HG:=zh hg
 have HX:=zh hx
 clear he hb ht hall hz hg hx
 go_enter func60,ntmps60
 go_wp2_with fail
 refine (bD start HB.out).mono ?_
 rintro r w1 (⟨hin,v',rfl,ho,hgr⟩|⟨hin,rfl,ht⟩)
 ·have HGR:=zh hgr
  have HO:=zh ho
  have HIN:=zh hin
  have HE1:=zh (HALL.out w1 hgr)
  have HY:Hid (x.endVec most start=({x with stk:=x.stk.take start.toNat}:BS).vector most (-1) 0 (x.stk.drop start.toNat)):=by show _=_;unfold BS.endVec;rw[if_pos HX.out,if_pos (show 0≤start∧start≤(x.stk.length:Int) from hin)]
  have HG2:Hid (BS.Good {x with stk:=x.stk.take start.toNat}):=⟨HG.out.s0,HG.out.nm,HG.out.ks,HG.out.ts,HG.out.ls,HG.out.vs,HG.out.ix,HG.out.nz⟩
  have HLE:Hid ((x.stk.drop start.toNat).length≤x.stk.length):=by show _≤_;rw[List.length_drop];omega
  have HTK:Hid (x.stk.take (x.stk.length - (x.stk.drop start.toNat).length)=x.stk.take start.toNat):=by show _=_;have h1:=hin.1;have h2:=hin.2;rw[List.length_drop];congr 1;omega
  have HOK:Hid (∀v∈x.stk.drop start.toNat,okV v):=fun v hv=>HB.out.ok.okS v (List.mem_of_mem_drop hv)
  have HSL:Hid ((x.stk.drop start.toNat).length≤1048576):=by show _≤_;have:=HLE.out;have:=HB.out.ok.stk;omega
  obtain⟨va,vc,rfl,_⟩:=j8 ho
  generalize x.stk.drop start.toNat=L at *
  clear ho hin hgr cb cs
  have cb:=Env.cell HE1.out HM1.out 0 _ rfl
  have cs:=Env.cell HE1.out HM2.out 0 _ rfl
  have c1:=HE1.out.at1
  have c2:=HE1.out.at2
  rw[HX.out] at c2
  go_wp2_with fail
  refine (HE1.out.call fun κ2 hb hz=>eI L.length hb HLE.out).mono ?_
  rintro r w2 ⟨⟨v'',rfl⟩,he⟩
  rw[HTK.out] at he
  have HE2:=zh he
  clear he cb cs c1 c2
  have cb:=Env.cell HE2.out HM1.out 0 _ rfl
  go_wp2_with fail
  refine (HE2.out.callT fun κ2 hb ht he=>qX (-1) 0 (.slice va L.length vc) L (.inl ⟨rfl,rfl⟩) (YC HO.out.vals (qY HB.out HO.out HGR.out) ht) ((qY HB.out HO.out HGR.out).tn ht) HSL.out HOK.out HG2.out hb).mono ?_
  rintro r w3 ⟨rfl,he⟩
  have HE3:=zh he
  clear he
  go_wp2
  go_end0
  exact⟨rfl,by rw[HY.out];exact (HE3.out.turn).base HTN.out HGR.out⟩
 ·have HY:Hid (x.endVec most start=x.fail 2):=by show _=_;unfold BS.endVec;rw[if_pos HX.out,if_neg (show ¬(0≤start∧start≤(x.stk.length:Int)) from hin)]
  have HN:Hid ((x.fail 2).e=2):=by show _=_;unfold BS.fail kF;rw[if_pos HX.out]
  have HNE:Hid ((x.fail 2).e≠0):=by show _≠_;rw[HN.out];decide
  have HNE:Hid ((x.fail 2).e≠0):=by show _≠_;rw[HN.out];decide
  have HE1:Hid (Env B q most flags w κ [(n2,Obj.cells #[.int .i64 start] 3 (0,0)),(n1,Obj.cells #[jF q.p] 23 (0,0))] (x.fail 2) w1):=by
   obtain⟨κ2,k1,k2⟩:=ht
   have h0:=HALL.out w (jB.refl w)
   exact⟨κ2,k1,HTN.out.trans k2,fun z hz=>⟨k2.1.heap (h0.kp (n:=z.1) (o:=z.2) hz) (fun e=>e (HZ.out z hz)),(k2.2 z.1 (Array.getElem?_eq_some_iff.1 (h0.kp (n:=z.1) (o:=z.2) hz)).1).trans (HZ.out z hz)⟩⟩
  clear ht hin cb cs
  have cb:=Env.cell HE1.out HM1.out 0 _ rfl
  have c2:=HE1.out.at2
  rw[HN.out] at c2
  go_wp2_with fail
  refine (HE1.out.call fun κ2 hb hz=>YY _ _ _ _ _ HNE.out hb).mono ?_
  rintro r w3 ⟨rfl,he⟩
  have HE3:=zh he
  clear he
  go_wp2
  go_end0
  exact⟨rfl,by rw[HY.out];exact HE3.out.turn⟩
theorem eK {B:Nat} {q:kE} {most flags:Int} {κ:Nat→Nat} {x:BS} {w:World} (start:Int) (hg:x.Good) (h:Bd B q most flags κ x w):Calls prog 16 #[jF q.p,.int .i64 start] w fun r w'=>r=.returned (.tuple #[])∧j1 B q most flags κ (x.endVec most start) w w':=by
 have HH:=zh hg
 have HE:Hid (Env B q most flags w κ [(w.heap.size+1,Obj.cells #[.int .i64 start] 3 (0,0)),(w.heap.size,Obj.cells #[jF q.p] 23 (0,0))] x ((w.alloc (.cells #[jF q.p] 23)).alloc (.cells #[.int .i64 start] 3))):=by
  have hh:=((Env.start h).add (.cells #[jF q.p] 23)).add (.cells #[.int .i64 start] 3)
  simp only[World.size_alloc,Nat.add_assoc,Nat.reduceAdd] at hh
  exact hh
 clear h hg
 go_enter func16,ntmps16
 go_wp2_with fail
 refine (HE.out.call' fun κ1 hb he=>k8 hb _ _ (x.endVec most start) (fun hx=>by unfold BS.endVec;rw[if_neg hx]) (fun _=>enters_of func60 zk rfl _ _) (fun hx=>eJ _ _ _ HH.out hx he)).mono ?_
 rintro r w5 ⟨rfl,he⟩
 have HT:=zh he
 clear he
 go_wp2
 go_end0
 exact⟨rfl,HT.out.turn⟩
end Go.Proofs.YtjnpcddbgfmpcaaGreat
namespace Go.Proofs.YtjnpcddbgfmpcaaGreat
open Go.Proofs.Tryz
open Go Go.ChangeShapes Go.WideShapes Go.ChangeAt Go.RowKit Go.Joins Go.Deep
open Go.Proofs.YtjnpcddbgfmpcaaGreat.Ft (V3 vV okV ValsAt inlineB legalB packF codeF typedF allF oneF)
namespace BS.Good
theorem stuck {x:BS} (h:x.e≠0):x.Good:=⟨fun e=>absurd e h,fun e=>absurd e h,fun e=>absurd e h,fun e=>absurd e h,fun e=>absurd e h,fun e=>absurd e h,fun e=>absurd e h,fun e=>absurd e h⟩
theorem fail {x:BS} {e:Int} (h:x.Good):(x.fail e).Good:=by
 by_cases hx:x.e=0
 ·have he:x.fail e={x with e:=e}:=by unfold BS.fail kF;rw[if_pos hx]
  rw[he]
  exact⟨fun _=>h.s0 hx,fun _=>h.nm hx,fun _=>h.ks hx,fun _=>h.ts hx,fun _=>h.ls hx,fun _=>h.vs hx,fun _=>h.ix hx,fun _=>h.nz hx⟩
 ·have he:x.fail e=x:=by unfold BS.fail kF;rw[if_neg hx]
  rw[he];exact h
theorem push {x:BS} {v:V3} (h:x.Good):(x.push v).Good:=by
 unfold BS.push
 by_cases hf:kF x.e x.s.2=0
 ·rw[if_pos hf]
  have hx:x.e=0:=by
   unfold kF at hf
   split at hf
   ·assumption
   ·exact hf
  split
  ·exact⟨fun _=>h.s0 hx,fun _=>h.nm hx,fun _=>h.ks hx,fun _=>h.ts hx,fun _=>h.ls hx,fun _=>h.vs hx,fun _=>h.ix hx,fun _=>h.nz hx⟩
  ·exact stuck (by show (5:Int)≠0;decide)
 ·rw[if_neg hf]
  exact stuck hf
theorem inline {x:BS} {v:V3} (h:x.Good):(x.inline v).Good:=by
 unfold BS.inline
 split
 ·exact h.push
 ·exact h
end BS.Good
theorem cF {most:Int} {y:List UInt8} {s:St}:s.1.length≤(j7 most y s).1.length:=by
 show _≤(KE s.1 y most s.2).length
 unfold KE
 repeat' split
 all_goals simp
theorem JM {most x:Int} {s:St}:s.1.length≤(jH most x s).1.length:=by
 unfold jH
 split
 ·exact cF
 ·exact Nat.le_refl _
theorem J1 {most x u:Int} {s:St}:s.1.length≤(jW most x u s).1.length:=by
 unfold jW
 repeat' split
 ·exact cF
 ·exact Nat.le_refl _
 ·exact Nat.le_refl _
namespace BS.Good
theorem push_buf {x:BS} {s':St} {v:V3} (h:x.Good) (hx:x.e=0) (hl:x.s.1.length≤s'.1.length):(({x with s:=s'}:BS).push v).Good:=by
 unfold BS.push
 dsimp only
 by_cases hf:kF x.e s'.2=0
 ·rw[if_pos hf]
  have hs:s'.2=0:=by
   unfold kF at hf
   rw[if_pos hx] at hf
   exact hf
  split
  ·exact⟨fun _=>hs,fun _ z hz=>Int.lt_of_lt_of_le (h.nm hx z hz) (by show (_:Int)≤_;exact_mod_cast hl),fun _=>Nat.le_trans (h.ks hx) hl,fun _=>Nat.le_trans (h.ts hx) hl,fun _=>Nat.le_trans (h.ls hx) hl,fun _=>Nat.le_trans (h.vs hx) hl,fun _=>h.ix hx,fun _ z hz=>Nat.le_trans (h.nz hx z hz) hl⟩
  ·exact stuck (by show (5:Int)≠0;decide)
 ·rw[if_neg hf]
  exact stuck hf
theorem apart {x:BS} {most t:Int} {v:V3} (h:x.Good):(x.apart most t v).Good:=by
 unfold BS.apart
 by_cases hx:x.e=0
 ·rw[if_pos hx]
  exact h.push_buf hx (Nat.le_trans JM J1)
 ·rw[if_neg hx];exact h
end BS.Good
theorem K6 {most:Int} {y:List UInt8} {s:St} (h:(j7 most y s).2=0):s.2=0∧(j7 most y s).1=s.1++y:=by
 have h1:(if s.2=0∧¬(y.length:Int)≤most - s.1.length then (5:Int) else s.2)=0:=h
 split at h1
 ·cases h1
 ·rename_i hn
  refine⟨h1,?_⟩
  show (if s.2=0∧(y.length:Int)≤most - s.1.length then s.1++y else s.1)=_
  rw[if_pos ⟨h1,Decidable.byContradiction fun hk=>hn ⟨h1,hk⟩⟩]
theorem VM (k:ByteArray):1≤(jS [k,⟨#[0]⟩]).length:=by
 simp[jS]
namespace BS.Good
theorem put {x:BS} {most:Int} {sh:Bool} {k:ByteArray} (h:x.Good):(x.put most sh k).2.Good:=by
 unfold BS.put
 dsimp only
 by_cases hf:(x.fail (JQ k)).e≠0
 ·rw[if_pos hf];exact h.fail
 ·rw[if_neg hf]
  by_cases hg:((yF x.keys k).2 && sh)=true
  ·rw[if_pos hg];exact h.fail
  ·rw[if_neg hg]
   have hf0:kF x.e (JQ k)=0:=Decidable.byContradiction hf
   have hx:x.e=0:=by
    unfold kF at hf0
    split at hf0
    ·assumption
    ·exact hf0
   have hxx:x.fail (JQ k)={x with e:=JQ k}:=by unfold BS.fail kF;rw[if_pos hx]
   rw[hxx]
   have hp:=qB k (x.s.1.length:Int) x.keys
   have hb:=VM k
   refine⟨fun e=>e,fun e=>?_,fun e=>?_,fun e=>?_,fun e=>?_,fun e=>?_,fun _=>h.ix hx,fun e=>?_⟩
   rotate_left 5
   all_goals
    have hs:=(K6 e).2
    have hl:(j7 most (jS [k,⟨#[0]⟩]) x.s).1.length=x.s.1.length+(jS [k,⟨#[0]⟩]).length:=by rw[hs,List.length_append]
    have h1:=h.nm hx
    have h2:=h.ks hx
    have h3:=h.ts hx
    have h4:=h.ls hx
    have h5:=h.vs hx
   ·intro z hz
    show z.2.size≤(j7 most (jS [k,⟨#[0]⟩]) x.s).1.length
    rcases List.mem_append.1 hz with hz|hz
    ·have:=h.nz hx z hz;omega
    ·obtain rfl:=List.mem_singleton.1 hz
     have hk2:(jS [k,⟨#[0]⟩]).length=k.size+1:=by
      have h:(jS [k,⟨#[0]⟩]).length=k.data.size+1:=by simp[jS]
      exact h
     show k.size≤_
     omega
   ·intro z hz
    show z.1 < ((j7 most (jS [k,⟨#[0]⟩]) x.s).1.length:Int)
    rcases List.mem_append.1 hz with hz|hz
    ·have:=h1 z hz;omega
    ·obtain rfl:=List.mem_singleton.1 hz
     show (x.s.1.length:Int) < _
     omega
   all_goals
    show _≤(j7 most (jS [k,⟨#[0]⟩]) x.s).1.length
    dsimp only
    omega
theorem key {x:BS} {most:Int} {sh:Bool} {k:ByteArray} (h:x.Good):(x.key most sh k).Good:=by
 unfold BS.key
 split
 ·exact h.put.push
 ·exact h
theorem cG {y:BS} {v:V3} (h:y.e=0→y.s.2=0→y.Good):(y.push v).Good:=by
 by_cases hf:kF y.e y.s.2=0
 ·have hx:y.e=0∧y.s.2=0:=by
   unfold kF at hf
   split at hf
   ·exact⟨by assumption,hf⟩
   ·rename_i hn;exact absurd hf hn
  exact (h hx.1 hx.2).push
 ·unfold BS.push
  rw[if_neg hf]
  exact stuck hf
theorem text {x:BS} {most t:Int} {k z:ByteArray} (h:x.Good) (hx:x.e=0) (hz:t=5→z=⟨#[0]⟩):(x.text most t k z).Good:=by
 unfold BS.text
 dsimp only
 refine cG fun _ e=>?_
 have h0:=(K6 e).2
 have hl0:x.s.1.length≤(jW most (Ft.widthOf k.size) k.size (jH most (Ft.widthOf k.size) x.s)).1.length:=Nat.le_trans JM J1
 generalize jW most (Ft.widthOf k.size) k.size (jH most (Ft.widthOf k.size) x.s)=s1 at *
 have hl:(j7 most (jS [k,z]) s1).1.length=s1.1.length+(jS [k,z]).length:=by rw[h0,List.length_append]
 have h1:=h.nm hx
 have h2:=h.ks hx
 have h3:=h.ts hx
 have h4:=h.ls hx
 have h5:=h.vs hx
 refine⟨fun _=>e,fun _ z' hz'=>?_,fun _=>?_,fun _=>?_,fun _=>?_,fun _=>?_,fun _=>h.ix hx,fun _ z' hz'=>?_⟩
 ·show z'.1 < ((j7 most (jS [k,z]) s1).1.length:Int)
  have:=h1 z' hz'
  omega
 ·show x.keys.length≤(j7 most (jS [k,z]) s1).1.length
  omega
 ·show (if t=5 then zE k (s1.1.length:Int) x.texts else x.texts).length≤(j7 most (jS [k,z]) s1).1.length
  by_cases ht:t=5
  ·rw[if_pos ht]
   have hp:=qB k (s1.1.length:Int) x.texts
   have hb:=VM k
   rw[hz ht] at hl⊢
   omega
  ·rw[if_neg ht]
   omega
 ·show x.lists.length≤(j7 most (jS [k,z]) s1).1.length
  omega
 ·show x.vals.length≤(j7 most (jS [k,z]) s1).1.length
  omega
 ·show z'.2.size≤(j7 most (jS [k,z]) s1).1.length
  have:=h.nz hx z' hz'
  omega
theorem str {x:BS} {most:Int} {sh:Bool} {k:ByteArray} (h:x.Good):(x.str most sh k).Good:=by
 unfold BS.str
 dsimp only
 by_cases hx:x.e=0
 ·rw[if_pos hx]
  split
  ·exact h.push
  ·exact h.text hx fun _=>rfl
 ·rw[if_neg hx];exact h
theorem blob {x:BS} {most:Int} {k:ByteArray} (h:x.Good):(x.blob most k).Good:=by
 unfold BS.blob
 by_cases hx:x.e=0
 ·rw[if_pos hx]
  exact h.text hx fun e=>absurd e (by decide)
 ·rw[if_neg hx];exact h
end BS.Good
theorem eL {most x:Int} {v:V3} {s:St}:s.1.length≤(yD most x s v).1.length:=by
 unfold yD
 split
 ·exact J1
 ·exact J1
theorem K7 {most x:Int}:∀(l:List V3) (s:St),s.1.length≤(jV most x l s).1.length
 | [],_=>Nat.le_refl _
 | v::r,s=>Nat.le_trans eL (K7 r (yD most x s v))
theorem YD {most x:Int}:∀(l:List V3) (s:St),s.1.length≤(kQ most x l s).1.length
 | [],_=>Nat.le_refl _
 | v::r,s=>Nat.le_trans (show s.1.length≤(tagS most x s v).1.length from cF) (YD r (tagS most x s v))
theorem iD {most:Int} {T:V3→Int} {len tagged:Bool} {kind e0:Int} {l:List V3} {s:St}:s.1.length≤(k9 most T len tagged kind e0 l s).2.1.length:=by
 unfold k9
 dsimp only
 by_cases ha:kY T e0 l≠0
 ·rw[if_pos ha];exact Nat.le_refl _
 rw[if_neg ha]
 generalize allF l (0,0,0) s.1.length (if len=true then 1 else 0)=X
 by_cases hb:X=0
 ·rw[if_pos hb];exact Nat.le_refl _
 rw[if_neg hb]
 have h1:s.1.length≤(jH most X s).1.length:=JM
 have h2:s.1.length≤(if len=true then jW most X l.length (jH most X s) else jH most X s).1.length:=by
  split
  ·exact Nat.le_trans h1 J1
  ·exact h1
 have h3:=Nat.le_trans h2 (K7 (most:=most) (x:=X) l _)
 have h4:s.1.length≤(if tagged=true then kQ most X l (jV most X l (if len=true then jW most X l.length (jH most X s) else jH most X s)) else jV most X l (if len=true then jW most X l.length (jH most X s) else jH most X s)).1.length:=by
  split
  ·exact Nat.le_trans h3 (YD l _)
  ·exact h3
 generalize (if tagged=true then kQ most X l (jV most X l (if len=true then jW most X l.length (jH most X s) else jH most X s)) else jV most X l (if len=true then jW most X l.length (jH most X s) else jH most X s))=s4 at h4⊢
 by_cases hc:s4.2≠0
 ·rw[if_pos hc];exact h4
 ·rw[if_neg hc];exact h4
theorem nG {most elem many:Int} {l:List V3} {s:St}:s.1.length≤(zC most elem many l s).2.1.length:=by
 unfold zC
 split
 ·exact iD
 ·exact iD
namespace BS.Good
theorem vector {x:BS} {most elem many:Int} {l:List V3} (h:x.Good):(x.vector most elem many l).Good:=by
 unfold BS.vector
 dsimp only
 by_cases hx:x.e=0
 ·rw[if_pos hx]
  refine cG fun _ e=>?_
  have hs:(zC most elem many l x.s).2.2=0:=e
  have hl:=nG (most:=most) (elem:=elem) (many:=many) (l:=l) (s:=x.s)
  refine fail ⟨fun _=>hs,fun _ z hz=>?_,fun _=>Nat.le_trans (h.ks hx) hl,fun _=>Nat.le_trans (h.ts hx) hl,fun _=>Nat.le_trans (h.ls hx) hl,fun _=>Nat.le_trans (h.vs hx) hl,fun _=>h.ix hx,fun _ z hz=>Nat.le_trans (h.nz hx z hz) hl⟩
  have:=h.nm hx z hz
  show z.1 < ((zC most elem many l x.s).2.1.length:Int)
  omega
 ·rw[if_neg hx];exact h
theorem putAll {most:Int} {sh:Bool}:∀(l:List ByteArray) {x:BS},x.Good→(x.putAll most sh l).2.Good
 | [],_,h=>h
 | _::r,_,h=>putAll r h.put
theorem keyVec {x:BS} {most:Int} {sh:Bool} {l:List ByteArray} (h:x.Good):(x.keyVec most sh l).Good:=by
 unfold BS.keyVec
 split
 ·exact (putAll l h).vector
 ·exact h
theorem fixed {x:BS} {most elem:Int} {l:List V3} (h:x.Good):(x.fixed most elem l).Good:=by
 unfold BS.fixed
 split
 ·split
  ·exact h.fail
  ·exact h.vector
 ·exact h
theorem stk {x:BS} (h:x.Good) (l:List V3):({x with stk:=l}:BS).Good:=⟨h.s0,h.nm,h.ks,h.ts,h.ls,h.vs,h.ix,h.nz⟩
theorem endVec {x:BS} {most start:Int} (h:x.Good):(x.endVec most start).Good:=by
 unfold BS.endVec
 split
 ·split
  ·exact (h.stk _).vector
  ·exact h.fail
 ·exact h
end BS.Good
theorem nH {most:Int} {y:List UInt8} {s:St} (h:(j7 most y s).2=0):s.2=0:=(K6 h).1
theorem bE {x:Int} {s:St} (hx:x≠0) (h:(ZE x s).2=0):s.2=0∧False:=by
 have h1:kF s.2 x=0:=h
 unfold kF at h1
 split at h1
 ·exact absurd h1 hx
 ·rename_i hn;exact absurd h1 hn
theorem VN {most x u:Int} {s:St} (h:(jW most x u s).2=0):s.2=0∧(jW most x u s).1.length=s.1.length+x.toNat∧isW x=true:=by
 unfold jW at h⊢
 by_cases hw:isW x=true
 ·rw[if_pos hw] at h⊢
  by_cases hf:YO x u=true
  ·rw[if_pos hf] at h⊢
   have:=K6 h
   exact⟨this.1,by rw[this.2,List.length_append,j2],hw⟩
  ·rw[if_neg hf] at h
   exact (bE (by decide) h).2.elim
 ·rw[if_neg hw] at h
  exact (bE (by decide) h).2.elim
theorem VO {most x:Int}:∀(l:List V3) {s:St},(jV most x l s).2=0→s.2=0
 | [],_,h=>h
 | v::r,s,h=>by
  have h1:=VO r (s:=yD most x s v) h
  unfold yD at h1
  split at h1
  ·exact (VN h1).1
  ·exact (VN h1).1
theorem bF {most x:Int}:∀(l:List V3) {s:St},(kQ most x l s).2=0→s.2=0
 | [],_,h=>h
 | v::r,s,h=>nH (bF r (s:=tagS most x s v) h)
theorem putF_gt {most:Int} {T:V3→Int} {tagged:Bool} {kind e0:Int} {l:List V3} {s:St} (h:(k9 most T true tagged kind e0 l s).1.2=0):s.1.length < (k9 most T true tagged kind e0 l s).2.1.length∧(k9 most T true tagged kind e0 l s).2.2=0:=by
 unfold k9 at h⊢
 dsimp only at h⊢
 by_cases ha:kY T e0 l≠0
 ·rw[if_pos ha] at h;exact absurd h ha
 rw[if_neg ha] at h⊢
 simp only[if_true] at h⊢
 generalize allF l (0,0,0) s.1.length 1=X at h⊢
 by_cases hb:X=0
 ·rw[if_pos hb] at h;cases h
 rw[if_neg hb] at h⊢
 have hg:∀s4:St,(s4=if tagged=true then kQ most X l (jV most X l (jW most X l.length (jH most X s))) else jV most X l (jW most X l.length (jH most X s)))→s4.2=0→s.1.length < s4.1.length:=by
  intro s4 e h4
  have h3:(jV most X l (jW most X l.length (jH most X s))).2=0∧(jV most X l (jW most X l.length (jH most X s))).1.length≤s4.1.length:=by
   rw[e] at h4⊢
   split at h4
   ·rename_i ht;rw[if_pos ht];exact⟨bF l h4,YD l _⟩
   ·rename_i ht;rw[if_neg ht];exact⟨h4,Nat.le_refl _⟩
  have h2:=VN (VO l h3.1)
  have h1:=K7 (most:=most) (x:=X) l (jW most X l.length (jH most X s))
  have h0:s.1.length≤(jH most X s).1.length:=JM
  have hw:=kC h2.2.2
  have:=h2.2.1
  omega
 have hg':=hg _ rfl
 generalize (if tagged=true then kQ most X l (jV most X l (jW most X l.length (jH most X s))) else jV most X l (jW most X l.length (jH most X s)))=s4 at h hg'⊢
 by_cases hc:s4.2≠0
 ·rw[if_pos hc] at h;exact absurd h hc
 ·rw[if_neg hc]
  exact⟨hg' (Decidable.byContradiction hc),Decidable.byContradiction hc⟩
theorem nI {most x:Int} {k:V3} {n:Nat} {s:St}:s.1.length≤(qM most x k n s).1.length:=by
 unfold qM
 have h1:s.1.length≤(jH most x s).1.length:=JM
 have h2:(jH most x s).1.length≤(yD most x (jH most x s) k).1.length:=eL
 generalize yD most x (jH most x s) k=s2 at h2⊢
 have h3:s2.1.length≤(jW most x k.2.1 s2).1.length:=J1
 generalize jW most x k.2.1 s2=s3 at h3⊢
 have h4:s3.1.length≤(jW most x n s3).1.length:=J1
 omega
theorem putM_ge {most:Int} {k:V3} {l:List V3} {s:St}:s.1.length≤(yY most k l s).2.1.length:=by
 unfold yY
 dsimp only
 by_cases ha:y3 k l≠0
 ·rw[if_pos ha];exact Nat.le_refl _
 rw[if_neg ha]
 generalize allF l k s.1.length 3=X
 by_cases hb:X=0
 ·rw[if_pos hb];exact Nat.le_refl _
 rw[if_neg hb]
 have h4:s.1.length≤(kQ most X l (jV most X l (qM most X k l.length s))).1.length:=Nat.le_trans nI (Nat.le_trans (K7 l _) (YD l _))
 generalize kQ most X l (jV most X l (qM most X k l.length s))=s6 at h4⊢
 by_cases hc:s6.2≠0
 ·rw[if_pos hc];exact h4
 ·rw[if_neg hc];exact h4
namespace BS.Good
theorem put_map {x:BS} {most:Int} {k:V3} {vals:List V3} (h:x.Good) (hx:x.e=0):((({x with s:=(yY most k vals x.s).2}:BS).fail (yY most k vals x.s).1.2).push (yY most k vals x.s).1.1).Good:=by
 have hl:=putM_ge (most:=most) (k:=k) (l:=vals) (s:=x.s)
 generalize yY most k vals x.s=q at hl⊢
 refine cG fun _ e=>?_
 have hs:q.2.2=0:=e
 refine fail ⟨fun _=>hs,fun _ z hz=>?_,fun _=>Nat.le_trans (h.ks hx) hl,fun _=>Nat.le_trans (h.ts hx) hl,fun _=>Nat.le_trans (h.ls hx) hl,fun _=>Nat.le_trans (h.vs hx) hl,fun _=>h.ix hx,fun _ z hz=>Nat.le_trans (h.nz hx z hz) hl⟩
 have:=h.nm hx z hz
 show z.1 < (q.2.1.length:Int)
 omega
theorem newList {x:BS} {most:Int} {list:ByteArray} {keys:List V3} (h:x.Good) (hx:x.e=0):({x with s:=(zC most 4 0 keys x.s).2,e:=kF x.e (zC most 4 0 keys x.s).1.2,lists:=zE list x.vals.length x.lists,vals:=x.vals++[(zC most 4 0 keys x.s).1.1]}:BS).Good:=by
 have hgt:=fun h=>(putF_gt (most:=most) (T:=j5 4) (tagged:=false) (kind:=(typedF 4 0).1) (e0:=0) (l:=keys) (s:=x.s) h)
 have hq:zC most 4 0 keys x.s=k9 most (j5 4) true false (typedF 4 0).1 0 keys x.s:=rfl
 rw[← hq] at hgt
 generalize zC most 4 0 keys x.s=q at hgt⊢
 have hf:kF x.e q.1.2=q.1.2:=by unfold kF;rw[if_pos hx]
 have hp:=qB list (x.vals.length:Int) x.lists
 have h1:=h.nm hx
 have h2:=h.ks hx
 have h3:=h.ts hx
 have h4:=h.ls hx
 have h5:=h.vs hx
 have h6:=h.ix hx
 refine⟨fun e=>(hgt (hf ▸ e)).2,fun e z hz=>?_,fun e=>?_,fun e=>?_,fun e=>?_,fun e=>?_,fun e z hz=>?_,fun e z hz=>Nat.le_trans (h.nz hx z hz) (Nat.le_of_lt (hgt (hf ▸ e)).1)⟩
 ·have:=(hgt (hf ▸ e)).1;have:=h1 z hz;show z.1 < (q.2.1.length:Int);omega
 ·have:=(hgt (hf ▸ e)).1;show x.keys.length≤q.2.1.length;omega
 ·have:=(hgt (hf ▸ e)).1;show x.texts.length≤q.2.1.length;omega
 ·have:=(hgt (hf ▸ e)).1;show (zE list (x.vals.length:Int) x.lists).length≤q.2.1.length;omega
 ·have:=(hgt (hf ▸ e)).1;show (x.vals++[q.1.1]).length≤q.2.1.length;rw[List.length_append];simp;omega
 ·show 0≤z.2∧z.2 < ((x.vals++[q.1.1]).length:Int)
  rw[List.length_append]
  rcases dS hz with hz|⟨rfl,_,_⟩
  ·have:=h6 z hz;simp;omega
  ·simp;omega
theorem table {x:BS} {most:Int} {sh:Bool} {list:ByteArray} {keys vals:List V3} (h:x.Good) (hx:x.e=0):(x.table most sh list keys vals).Good:=by
 unfold BS.table
 dsimp only
 have hG:=h.newList (most:=most) (list:=list) (keys:=keys) hx
 generalize zC most 4 0 keys x.s=q at hG⊢
 cases hg:((yF x.lists list).2 && sh) with
 | true=>
  simp only[if_true]
  rw[if_pos hx]
  exact h.put_map hx
 | false=>
  simp only[Bool.false_eq_true,if_false]
  by_cases he:kF x.e q.1.2=0
  ·rw[if_pos he];exact hG.put_map he
  ·rw[if_neg he];exact hG
theorem endMap {x:BS} {most start:Int} {sh:Bool} (h:x.Good):(x.endMap most sh start).Good:=by
 unfold BS.endMap
 dsimp only
 by_cases hx:x.e=0
 ·rw[if_pos hx]
  split
  ·split
   ·split
    ·exact (h.stk _).table hx
    ·exact h.fail
   ·exact h.fail
  ·exact h.fail
 ·rw[if_neg hx];exact h
end BS.Good
end Go.Proofs.YtjnpcddbgfmpcaaGreat
namespace Go.Proofs.YtjnpcddbgfmpcaaGreat
open Go.Proofs.Tryz
open Go Go.ChangeShapes Go.WideShapes Go.ChangeAt Go.RowKit Go.Joins Go.Deep
open Go.Proofs.YtjnpcddbgfmpcaaGreat.Ft (V3 vV okV ValsAt inlineB legalB packF codeF typedF allF)
theorem Y9 (most:Int) (sh:Bool):∀(l:List ByteArray) (k:ByteArray) (x:BS),x.putAll most sh (l++[k])=((x.putAll most sh l).1++[((x.putAll most sh l).2.put most sh k).1],((x.putAll most sh l).2.put most sh k).2)
 | [],k,x=>rfl
 | a::r,k,x=>by
  show (_::((x.put most sh a).2.putAll most sh (r++[k])).1,((x.put most sh a).2.putAll most sh (r++[k])).2)=_
  rw[Y9 most sh r k]
  rfl
theorem JB (most:Int) (sh:Bool):∀(l:List ByteArray) (x:BS),(x.putAll most sh l).1.length=l.length
 | [],_=>rfl
 | _::r,x=>by show ((_::_):List V3).length=_;rw[List.length_cons,JB most sh r];rfl
def K9 (B:Nat) (q:kE) (most flags:Int) (w0:World) (κ0:Nat→Nat) (x:BS) (v:Value) (L:List V3) (w:World):Prop:=
 ∃κ,Bd B q most flags κ x w∧Tn κ0 κ w0 w∧jQ w w0.heap.size v L∧∀g,v.ownBlock=some g→κ g=0
section
variable {B:Nat} {q:kE} {most flags:Int} {κ κ0:Nat→Nat} {x y:BS} {w w0 w1 w2 w3:World} {v v':Value} {L:List V3}
theorem QR (h:jQ w B v L) {g:Nat} (hg:v.ownBlock=some g):B≤g∧g < w.heap.size:=by
 rcases h.2 with ⟨rfl,_⟩|⟨g',cap,cur,rfl,hge,hh,_⟩
 ·cases hg
 ·cases hg
  exact⟨hge,(Array.getElem?_eq_some_iff.1 hh).1⟩
theorem K9.cell (h:K9 B q most flags w0 κ0 x v L w) {b off:Nat} {u:Value} (hc:w0.cell? ⟨b,off,none⟩=some u) (hb:κ0 b=0):w.cell? ⟨b,off,none⟩=some u:=by
 obtain⟨κ1,h1,h2,_⟩:=h
 exact h2.1.cell hc (fun e=>e hb)
theorem K9.put (h:K9 B q most flags w0 κ0 x v L w) (k:ByteArray) (hk:k.size≤1048576) (hg:x.Good):Calls prog 95 #[jF q.p,.string k] w fun r w'=>r=.returned (vV (x.put most (onF flags 1) k).1)∧K9 B q most flags w0 κ0 (x.put most (onF flags 1) k).2 v L w':=by
 obtain⟨κ1,h1,h2,h3,h4⟩:=h
 refine (eA k hk hg h1).mono fun r w' hr=>⟨hr.1,?_⟩
 obtain⟨κ2,k1,k2⟩:=hr.2
 exact⟨κ2,k1,h2.trans k2,k2.1.owns h3 (fun g hgg hk=>hk (h4 g hgg)),fun g hgg=>(k2.2 g (QR h3 hgg).2).trans (h4 g hgg)⟩
theorem K9.app (h:K9 B q most flags w0 κ0 x v L w) {o:Obj} {L':List V3} (j3:jQ w3 w0.heap.size v' L') (hgr:(w.alloc o).grownBy w3 v.ownBlock) (hnx:zJ (w.alloc o) v.ownBlock v'.ownBlock):K9 B q most flags w0 κ0 x v' L' w3:=by
 obtain⟨κ1,h1,h2,h3,h4⟩:=h
 have hg:=(jB.refl w).alloc o
 have h1':=h1.grew hg
 have hm:Moved (fun k=>some k=v.ownBlock) (w.alloc o) w3:=Moved.of_grown hgr
 have hd:∀c,c≠0→∀k,κ1 k=c→¬some k=v.ownBlock:=fun c hc k hk e=>hc (by rw[← hk];exact h4 k e.symm)
 refine⟨κ1,⟨fun k hk=>⟨(h1'.lt k hk).1,Nat.lt_of_lt_of_le (h1'.lt k hk).2 hm.size⟩,h1'.ok,h1'.self.kept hm (hd 1 (by decide)),h1'.buf.kept hm (hd 2 (by decide)),h1'.stk.kept hm (hd 3 (by decide)),h1'.keys.kept hm (hd 4 (by decide)),h1'.texts.kept hm (hd 5 (by decide)),h1'.lists.kept hm (hd 6 (by decide)),h1'.names.kept hm (hd 7 (by decide))⟩,
  ⟨(h2.trans (Tn.of_grew hg)).1.trans hm (fun j hj e=>by have:=(QR h3 e.symm).1;omega),(h2.trans (Tn.of_grew (κ:=κ1) hg)).2⟩,j3,fun g hgg=>?_⟩
 rcases hnx g hgg with e|e
 ·exact h4 g e
 ·exact Decidable.byContradiction fun hk=>by have:=(h1'.lt g hk).2;omega
end
theorem nJ {B:Nat} {q:kE} {most flags:Int} {κ:Nat→Nat} {x:BS} {w:World} (l:List ByteArray) (lv:Value) (hp:yA (fun x=>.string x) w lv l) (ha:zP κ w lv) (hk:∀k∈l,k.size≤1048576) (hl:l.length≤1048576) (hg:x.Good) (h:Bd B q most flags κ x w):Calls prog 100 #[.func (.func 95) #[jF q.p] #[],lv] w fun r w'=>∃v',r=.returned v'∧K9 B q most flags w κ (x.putAll most (onF flags 1) l).2 v' (x.putAll most (onF flags 1) l).1 w':=by
 have HB:=zh h
 have HA:=zh ha
 obtain⟨ad,c,rfl,j4⟩:=hp
 have HC:=zh j4
 have HK:=zh hk
 have HL:=zh hl
 have HG:=zh hg
 have hll:l.length≤9223372036854775807:=by omega
 clear j4 hk hg h ha
 go_enter func100,ntmps100
 go_wp2_with fail
 go_loopw [4,9] (fun v i wr=>∃k:Nat,k≤l.length∧i=.int .i64 k∧Hid (K9 B q most flags w κ (x.putAll most (onF flags 1) (l.take k)).2 v (x.putAll most (onF flags 1) (l.take k)).1 wr)) (fun _ i _=>l.length - (intOf i).toNat)
 case atStart=>exact⟨0,Nat.zero_le _,rfl,by
  show K9 B q most flags w κ x _ [] _
  exact⟨κ,HB.out,Tn.refl _ _,World.ownsRow_nil _ _ _ _,fun g e=>by cases e⟩⟩
 case round=>
  obtain⟨k,hk,rfl,HW⟩:=hrel
  by_cases hlt:k < l.length
  ·obtain⟨s,hx⟩:∃s,l[k]? = some s:=⟨_,List.getElem?_eq_getElem hlt⟩
   have HSN:=zh (Y9 most (onF flags 1) (l.take k) s x)
   have HTK:Hid (l.take (k+1)=l.take k++[s]):=by show _=_;rw[List.take_add_one,hx];rfl
   have HKS:=zh (HK.out s (List.mem_of_getElem? hx))
   obtain⟨b,off,rfl,c0⟩:=HC.out k s hx
   have d0:=HW.out.cell c0 (HA.out _ _ _ rfl).2
   clear hx c0
   have HGG:Hid ((x.putAll most (onF flags 1) (l.take k)).2.Good):=BS.Good.putAll _ HG.out
   have HLN:Hid ((x.putAll most (onF flags 1) (l.take k)).1.length=k):=by show _=_;rw[JB,List.length_take];omega
   generalize (x.putAll most (onF flags 1) (l.take k))=Y at *
   obtain⟨L,y⟩:=Y
   go_wp2_with fail
   refine (HW.out.put s HKS.out HGG.out).mono ?_
   rintro r w2 ⟨rfl,he⟩
   have HE:=zh he
   obtain⟨va,vc,rfl,hvc⟩:=j8 (show jQ w2 w.heap.size u4 L from by obtain⟨_,_,_,h,_⟩:=he;exact h)
   clear he HW
   obtain⟨X,hX⟩:∃X,(y.put most (onF flags 1) s).1=X:=⟨_,rfl⟩
   have HX:=zh hX
   rw[hX]
   clear hX
   obtain⟨X0,X1,X2⟩:=X
   have HO2:Hid (∀o,jQ (w2.alloc o) w.heap.size (.slice va L.length vc) L):=fun o=>by obtain⟨_,_,_,h,_⟩:=HE.out;exact yE h ((jB.refl _).alloc o)
   have HSZ:Hid (w.heap.size≤w2.heap.size):=by obtain⟨_,_,h,_⟩:=HE.out;exact h.1.size
   go_wp2_with (at_builtin;refine zN rfl _ _ rfl w.heap.size (.slice va L.length vc) L rfl (HO2.out _) _ [(X0,X1,X2)] rfl (q9 _ _) (fun c h=>by cases h) (by have:=HLN.out;have:=HL.out;simp at *;omega) (Nat.le_trans HSZ.out (by simp)) ?_;intro v' w3 j3 hgr hqq;have HG3:=zh (HE.out.app j3 hgr hqq);obtain⟨va2,vc2,rfl,_⟩:=j8 j3;clear j3 hgr hqq)
   go_roundw
   case rel=>
    refine⟨k+1,by omega,by go_num,?_⟩
    show K9 _ _ _ _ _ _ _ _ _ _
    rw[HTK.out,HSN.out]
    have hh:=HG3.out
    rw[List.length_append] at hh
    rw[HX.out]
    exact hh
   case measure=>simp[intOf];omega
  ·have ek:k=l.length:=by omega
   subst ek
   have hw:=HW.out
   rw[List.take_length] at hw
   have HE:=zh hw
   clear hw HW
   go_wp2
   go_ret
   exact⟨_,rfl,HE.out⟩
def eM (B:Nat) (q:kE) (most flags:Int) (w0:World) (κ0:Nat→Nat) (Kp:List (Nat × Obj)) (x:BS) (L:List V3):Nat→Value→World→Prop
 | 0,_,_=>False
 | 1,v,w=>∃κ,Bd B q most flags κ x w∧Tn κ0 κ w0 w∧(∀z∈Kp,w.heap[z.1]? = some z.2∧κ z.1=0)∧(∃b,jQ w b v L)∧∀g,v.ownBlock=some g→κ g=0
 | _+2,_,_=>True
theorem eM.st {B:Nat} {q:kE} {most flags:Int} {w0:World} {κ0:Nat→Nat} {Kp:List (Nat × Obj)} {x:BS} {L:List V3}:(∀p v w w',(fun (_:Nat) w w'=>jB w w') p w w'→eM B q most flags w0 κ0 Kp x L p v w→eM B q most flags w0 κ0 Kp x L p v w')∧∀p v w w',(fun _ _ _=>True:Nat→World→World→Prop) p w w'→eM B q most flags w0 κ0 Kp x L p v w→eM B q most flags w0 κ0 Kp x L (p+1) v w':=by
 refine⟨fun p v w w' hg h=>?_,fun p v w w' _ h=>?_⟩
 ·match p,h with
  | 1,⟨κ,h1,h2,h3,⟨b,h4⟩,h5⟩=>exact⟨κ,h1.grew hg,h2.trans (Tn.of_grew hg),fun z hz=>⟨hg.heap (h3 z hz).1,(h3 z hz).2⟩,⟨b,yE h4 hg⟩,h5⟩
  | _+2,_=>trivial
 ·match p,h with
  | 1,_=>trivial
  | _+2,_=>trivial
theorem eN {α:Type} {f:α→Value} {κ κ1:Nat→Nat} {w w':World} {lv:Value} {l:List α} (hv:yA f w lv l) (h:zP κ w lv) (ht:Tn κ κ1 w w'):yA f w' lv l:=by
 obtain⟨a,c,rfl,hc⟩:=hv
 refine⟨a,c,rfl,fun i x hx=>?_⟩
 obtain⟨b,off,rfl,h0⟩:=hc i x hx
 exact⟨b,off,rfl,ht.1.cell h0 (fun e=>e (h _ _ _ rfl).2)⟩
theorem nL {most:Int} {sh:Bool} {k:ByteArray} {x:BS} (hl:(x.s.1.length:Int)≤most) (hm:most≤1048576) (hk:∀z∈x.keys,0≤z.2∧z.2≤9007199254740991) :
 okV (x.put most sh k).1∧((x.put most sh k).2.s.1.length:Int)≤most∧∀z∈(x.put most sh k).2.keys,0≤z.2∧z.2≤9007199254740991:=by
 have hg:=QO (k:=k) hk
 unfold BS.put
 dsimp only
 by_cases hf:(x.fail (JQ k)).e≠0
 ·rw[if_pos hf];exact⟨ok0,hl,hk⟩
 ·rw[if_neg hf]
  by_cases hgb:((yF x.keys k).2 && sh)=true
  ·rw[if_pos hgb]
   exact⟨⟨hg.1,by show (yF x.keys k).1≤_;omega⟩,hl,hk⟩
  ·rw[if_neg hgb]
   exact⟨⟨Int.natCast_nonneg _,by show (x.s.1.length:Int)≤_;omega⟩,KX hl,cA hk⟩
theorem bG {most:Int} {sh:Bool} (hm:most≤1048576):∀(l:List ByteArray) (x:BS),(x.s.1.length:Int)≤most→(∀z∈x.keys,0≤z.2∧z.2≤9007199254740991)→∀v∈(x.putAll most sh l).1,okV v
 | [],_,_,_=>fun v hv=>by cases hv
 | k::r,x,hl,hk=>fun v hv=>by
  have hp:=nL (sh:=sh) (k:=k) hl hm hk
  rcases List.mem_cons.1 hv with rfl|hv
  ·exact hp.1
  ·exact bG hm r _ hp.2.1 hp.2.2 v hv
theorem lH {B:Nat} {q:kE} {most flags:Int} {κ:Nat→Nat} {x:BS} {w:World} (n1 n2:Nat) (la:Option Addr) (lc:Nat) (l:List ByteArray) (hp:yA (fun x=>.string x) w (.slice la l.length lc) l) (ha:zP κ w (.slice la l.length lc)) (hk:∀k∈l,k.size≤1048576) (hl:l.length≤1048576) (hg:x.Good) (hx:x.e=0) (he:Env B q most flags w κ [(n2,Obj.cells #[.slice la l.length lc] 34 (0,0)),(n1,Obj.cells #[jF q.p] 23 (0,0))] x w):Calls prog 99 #[.pointer (some ⟨n1,0,none⟩),.pointer (some ⟨n2,0,none⟩)] w fun r w'=>r=.returned (.tuple #[])∧j1 B q most flags κ (x.keyVec most (onF flags 1) l) w w':=by
 have HE:=zh he
 have HM2:Hid ((n2,Obj.cells #[.slice la l.length lc] 34 (0,0))∈([(n2,Obj.cells #[.slice la l.length lc] 34 (0,0)),(n1,Obj.cells #[jF q.p] 23 (0,0))]:List (Nat × Obj))):=List.mem_cons_self
 have HM1:Hid ((n1,Obj.cells #[jF q.p] 23 (0,0))∈([(n2,Obj.cells #[.slice la l.length lc] 34 (0,0)),(n1,Obj.cells #[jF q.p] 23 (0,0))]:List (Nat × Obj))):=List.mem_cons_of_mem _ (List.mem_cons_self)
 have HPA:=zh (And.intro hp ha)
 have HK:=zh (And.intro hk hl)
 have HG:=zh hg
 have HGP:Hid ((x.putAll most (onF flags 1) l).2.Good):=BS.Good.putAll l hg
 have HOK:Hid (∀v∈(x.putAll most (onF flags 1) l).1,okV v):=bG he.ok.m1 l x he.ok.len he.ok.okK
 have HLN:Hid ((x.putAll most (onF flags 1) l).1.length≤1048576):=by show _≤_;rw[JB];exact hl
 have HY:Hid (x.keyVec most (onF flags 1) l=(x.putAll most (onF flags 1) l).2.vector most 4 0 (x.putAll most (onF flags 1) l).1):=by show _=_;unfold BS.keyVec;rw[if_pos hx]
 have HMS:Hid (∀κ1 w2,Bd B q most flags κ1 x w2→Tn κ κ1 w w2→Calls prog 100 #[.func (.func 95) #[jF q.p] #[],.slice la l.length lc] w2 fun r w'=>∃v',r=.returned v'∧K9 B q most flags w2 κ1 (x.putAll most (onF flags 1) l).2 v' (x.putAll most (onF flags 1) l).1 w'):=fun κ1 w2 hb ht=>nJ l _ (eN hp ha ht) (ha.tn ht) hk hl hg hb
 generalize (x.putAll most (onF flags 1) l)=Y at HGP HOK HLN HY HMS
 obtain⟨L,yk⟩:=Y
 clear he hp ha hk hg hx
 go_enter func99,ntmps99
 go_wp2_with fail
 refine jO [4,5] (zX B q most flags w κ [(n2,Obj.cells #[.slice la l.length lc] 34 (0,0)),(n1,Obj.cells #[jF q.p] 23 (0,0))] [x,yk] (yk.vector most 4 0 L)) (fun _ w w'=>jB w w') ((fun p (_:Nat→Value)=>(fun _ _ _=>True) p)) [[],[],[1],[],[1,2,3],[0,1,2,3,4]] [[(3,1),(4,2),(5,3),(6,4)],[(2,0),(5,3)],[(2,0),(3,1),(5,3)],[(2,0),(3,1),(4,2)],[(2,0),(3,1),(4,2),(5,3)],[(2,0),(3,1),(4,2),(5,3),(6,4)]] [(2,0),(3,1),(4,2),(5,3),(6,4),(7,5)]
  [IsP (jF q.p),IsP (jF q.p),IsP (.func (.func 95) #[jF q.p] #[]),IsP (.slice la l.length lc),eM B q most flags w κ [(n2,Obj.cells #[.slice la l.length lc] 34 (0,0)),(n1,Obj.cells #[jF q.p] 23 (0,0))] yk L,IsP (.tuple #[])]
  zk (zX.grew) (HE.out.grew (jB.refl _).drew) zk zk ⟨jC,jC,jC,jC,qQ (eM.st),jC,trivial⟩ rfl ?_ ?_
 ·intro y w2 hW hF
  simp only[kT,IsP,Nat.reduceAdd,List.length_cons,List.length_nil] at hF hW
  have h0:=hF.1
  have h1:=hF.2.1
  have h2:=hF.2.2.1
  have h3:=hF.2.2.2.1
  have h4:=hF.2.2.2.2.1
  have h5:=hF.2.2.2.2.2.1
  clear hF
  simp only[jA,Act.put,zq1,zq2,zq3,zq4,zq5]
  simp only[h0,h1,h2,h3,h5]
  clear h0 h1 h2 h3 h5
  go_wp2
  go_end0
  exact⟨rfl,by rw[HY.out];exact Env.turn hW⟩
 refine⟨?_,?_⟩
 ·refine jJ 0 1 ?_
  intro y w2 p hlo hhi hW hD K hK
  have d10:=Env.cell hW HM1.out 0 _ rfl
  exact zqr
 refine⟨?_,?_⟩
 ·refine jJ 0 0 ?_
  intro y w2 p hlo hhi hW hD K hK
  have d10:=Env.cell hW HM1.out 0 _ rfl
  exact zqr
 refine⟨zqd,?_⟩
 refine⟨?_,?_⟩
 ·refine jJ 0 0 ?_
  intro y w2 p hlo hhi hW hD K hK
  have d20:=Env.cell hW HM2.out 0 _ rfl
  exact zqr
 refine⟨?_,?_⟩
 ·refine jP 0 rfl ?_
  intro y w2 hW hD K hK
  simp only[jU,zq4,zq5,IsP] at hD
  have h1:=hD.1
  have h2:=hD.2.1
  have h3:=hD.2.2.1
  clear hD
  generalize hAA:jA y _ _=AA at hK⊢
  simp only[jA,Act.put,zq1,zq2,zq3,zq4,zq5,IsP] at hAA
  subst hAA
  simp only[zq4,zq5,IsP] at hK
  simp only[h1,h2,h3] at hK⊢
  clear h1 h2 h3
  refine jG ?_
  go_simp
  obtain⟨κ1,hb,ht,hkk⟩:=(show Env B q most flags w κ [(n2,Obj.cells #[.slice la l.length lc] 34 (0,0)),(n1,Obj.cells #[jF q.p] 23 (0,0))] x w2 from hW)
  refine (HMS.out κ1 w2 hb ht).mono ?_
  rintro r w3 ⟨v',rfl,κ2,k1,k2,k3,k4⟩
  have hkp:∀z∈([(n2,Obj.cells #[.slice la l.length lc] 34 (0,0)),(n1,Obj.cells #[jF q.p] 23 (0,0))]:List (Nat × Obj)),w3.heap[z.1]? = some z.2∧κ2 z.1=0:=fun z hz=>⟨k2.1.heap (hkk z hz).1 (fun e=>e (hkk z hz).2),(k2.2 z.1 (Array.getElem?_eq_some_iff.1 (hkk z hz).1).1).trans (hkk z hz).2⟩
  exact hK _ _ _ rfl trivial ⟨κ2,k1,ht.trans k2,hkp⟩ ⟨κ2,k1,ht.trans k2,hkp,⟨_,k3⟩,k4⟩
 refine⟨?_,?_⟩
 ·refine jP 1 rfl ?_
  intro y w2 hW hD K hK
  simp only[jU,zq4,zq5,IsP] at hD
  have h0:=hD.1
  have h1:=hD.2.1
  have h2:=hD.2.2.1
  have h3:=hD.2.2.2.1
  have h4:=hD.2.2.2.2.1
  clear hD
  generalize hAA:jA y _ _=AA at hK⊢
  simp only[jA,Act.put,zq1,zq2,zq3,zq4,zq5,IsP] at hAA
  subst hAA
  simp only[zq4,zq5,IsP] at hK
  simp only[h0,h1,h2,h3] at hK⊢
  clear h0 h1 h2 h3
  obtain⟨κ1,hb,ht,hkk,⟨b,ho⟩,j3⟩:=(show eM B q most flags w κ [(n2,Obj.cells #[.slice la l.length lc] 34 (0,0)),(n1,Obj.cells #[jF q.p] 23 (0,0))] yk L 1 _ w2 from h4)
  obtain⟨va,vc,hv,_⟩:=j8 ho
  rw[hv] at ho j3
  simp only[hv] at hK⊢
  have hap:zP κ1 w2 (.slice va L.length vc):=fun ad n c e=>by cases e;exact⟨(QR ho rfl).2,j3 _ rfl⟩
  refine jG ?_
  go_simp
  refine (qX 4 0 (.slice va L.length vc) L (.inr (.inl ⟨by decide,rfl,by kernel_rfl⟩)) ho.vals hap HLN.out HOK.out HGP.out hb).mono ?_
  rintro r w3 ⟨rfl,κ2,k1,k2⟩
  exact hK _ _ _ rfl trivial ⟨κ2,k1,ht.trans k2,fun z hz=>⟨k2.1.heap (hkk z hz).1 (fun e=>e (hkk z hz).2),(k2.2 z.1 (Array.getElem?_eq_some_iff.1 (hkk z hz).1).1).trans (hkk z hz).2⟩⟩ rfl
 trivial
theorem lI {B:Nat} {q:kE} {most flags:Int} {κ:Nat→Nat} {x:BS} {w:World} (la:Option Addr) (lc:Nat) (l:List ByteArray) (hp:yA (fun x=>.string x) w (.slice la l.length lc) l) (ha:zP κ w (.slice la l.length lc)) (hk:∀k∈l,k.size≤1048576) (hl:l.length≤1048576) (hg:x.Good) (h:Bd B q most flags κ x w):Calls prog 46 #[jF q.p,.slice la l.length lc] w fun r w'=>r=.returned (.tuple #[])∧j1 B q most flags κ (x.keyVec most (onF flags 1) l) w w':=by
 have HPA:=zh (And.intro hp ha)
 have HK:=zh (And.intro hk hl)
 have HG:=zh hg
 have HE:Hid (Env B q most flags w κ [(w.heap.size+1,Obj.cells #[.slice la l.length lc] 34 (0,0)),(w.heap.size,Obj.cells #[jF q.p] 23 (0,0))] x ((w.alloc (.cells #[jF q.p] 23)).alloc (.cells #[.slice la l.length lc] 34))):=by
  have hh:=((Env.start h).add (.cells #[jF q.p] 23)).add (.cells #[.slice la l.length lc] 34)
  simp only[World.size_alloc,Nat.add_assoc,Nat.reduceAdd] at hh
  exact hh
 clear h hp ha hk hl hg
 go_enter func46,ntmps46
 go_wp2_with fail
 refine (HE.out.callT fun κ1 hb ht he=>k8 hb _ _ (x.keyVec most (onF flags 1) l) (fun hx=>by unfold BS.keyVec;rw[if_neg hx]) (fun _=>enters_of func99 zk rfl _ _) (fun hx=>lH _ _ _ _ _ (eN HPA.out.1 HPA.out.2 ht) (HPA.out.2.tn ht) HK.out.1 HK.out.2 HG.out hx he)).mono ?_
 rintro r w5 ⟨rfl,he⟩
 have HT:=zh he
 clear he
 go_wp2
 go_end0
 exact⟨rfl,HT.out.turn⟩
theorem eO {most x:Int} {k:V3} {n:Nat} {s:St} (h:(s.1.length:Int)≤most):((qM most x k n s).1.length:Int)≤most:=by
 unfold qM
 exact zW (zW (qC (x:=x) [k] (kJ h)))
theorem putM_le {most:Int} {k:V3} {l:List V3} {s:St} (h:(s.1.length:Int)≤most):((yY most k l s).2.1.length:Int)≤most:=by
 unfold yY
 dsimp only
 by_cases ha:y3 k l≠0
 ·rw[if_pos ha];exact h
 rw[if_neg ha]
 generalize allF l k s.1.length 3=X
 by_cases hb:X=0
 ·rw[if_pos hb];exact h
 rw[if_neg hb]
 have h4:((kQ most X l (jV most X l (qM most X k l.length s))).1.length:Int)≤most:=KK l (qC l (eO h))
 generalize kQ most X l (jV most X l (qM most X k l.length s))=s6 at h4⊢
 by_cases hc:s6.2≠0
 ·rw[if_pos hc];exact h4
 ·rw[if_neg hc];exact h4
theorem nM {most:Int} {k:V3} {l:List V3} {s:St} (h:(s.1.length:Int)≤most) (hm:most≤1048576):okV (yY most k l s).1.1:=by
 unfold yY
 dsimp only
 by_cases ha:y3 k l≠0
 ·rw[if_pos ha];exact ok0
 rw[if_neg ha]
 generalize allF l k s.1.length 3=X
 by_cases hb:X=0
 ·rw[if_pos hb];exact ok0
 rw[if_neg hb]
 have h5:=eO (x:=X) (k:=k) (n:=l.length) h
 generalize kQ most X l (jV most X l (qM most X k l.length s))=s6
 by_cases hc:s6.2≠0
 ·rw[if_pos hc];exact ok0
 ·rw[if_neg hc]
  refine⟨Int.natCast_nonneg _,?_⟩
  show (List.length _:Int)≤_
  omega
def BS.tableEnd (most:Int) (i:Int) (vals:List V3) (x:BS):BS:=
 if x.e=0 then (({x with s:=(yY most (x.vals.getD i.toNat (0,0,0)) vals x.s).2}:BS).fail (yY most (x.vals.getD i.toNat (0,0,0)) vals x.s).1.2).push (yY most (x.vals.getD i.toNat (0,0,0)) vals x.s).1.1 else x
theorem BS.table_eq (most:Int) (sh:Bool) (list:ByteArray) (keys vals:List V3) (x:BS):x.table most sh list keys vals=if (yF x.lists list).2 && sh then x.tableEnd most (yF x.lists list).1 vals else ({x with s:=(zC most 4 0 keys x.s).2,e:=kF x.e (zC most 4 0 keys x.s).1.2,lists:=zE list x.vals.length x.lists,vals:=x.vals++[(zC most 4 0 keys x.s).1.1]}:BS).tableEnd most x.vals.length vals:=by
 unfold BS.table BS.tableEnd
 dsimp only
 cases hg:((yF x.lists list).2 && sh) with
 | true=>simp only[if_true]
 | false=>simp only[Bool.false_eq_true,if_false]
section
variable {B:Nat} {q:kE} {most flags:Int} {κ κ0 κ1:Nat→Nat} {x y:BS} {w w' w0:World} {Kp:List (Nat × Obj)}
theorem nN {k:V3} {lv:Value} {l:List V3} (h:Bd B q most flags κ x w) (hkk:okV k) (hv:ValsAt w lv l) (ha:zP κ w lv) (kG:∀c,lv=.slice none 0 c→c=0) (j9:l.length≤1048575) (hok:∀v∈l,okV v) (hs:x.s.2=0) :
 Calls prog 168 #[jF q.b,vV k,lv] w fun r w'=>r=.returned (zM (yY most k l x.s).1)∧∀κ1,Bd B q most flags κ1 x w→j1 B q most flags κ1 {x with s:=(yY most k l x.s).2} w w':=by
 refine h.buf_callsA (putM_le h.ok.len) fun o ho hκ=>?_
 have hap:∀ad n c,lv=.slice (some ad) n c→ad.block < w.heap.size∧¬y6 q.b o ad.block:=fun ad n c e=>⟨(ha ad n c e).1,fun hk=>by have h1:=hκ _ hk;have h2:=(ha ad n c e).2;omega⟩
 exact put_map x.s k lv l ho (Nat.zero_le _) h.ok.len h.ok.m1 hv kG j9 hok hkk hap hs
theorem Env.mput {k:V3} {lv:Value} {l:List V3} (h:Env B q most flags w0 κ0 Kp x w) (hkk:okV k) (hv:ValsAt w0 lv l) (ha:zP κ0 w0 lv) (kG:∀c,lv=.slice none 0 c→c=0) (j9:l.length≤1048575) (hok:∀v∈l,okV v) (hs:x.s.2=0) :
 Calls prog 168 #[jF q.b,vV k,lv] w fun r w'=>r=.returned (zM (yY most k l x.s).1)∧eG B q most flags w0 κ0 x {x with s:=(yY most k l x.s).2} w w':=by
 obtain⟨κ,h1,h2,h3⟩:=h
 have hv2:ValsAt w lv l:=vR hv h2.1 (fun ad n c e hk=>hk (ha ad n c e).2)
 have ha2:zP κ w lv:=fun ad n c e=>⟨Nat.lt_of_lt_of_le (ha ad n c e).1 h2.1.size,(h2.2 _ (ha ad n c e).1).trans (ha ad n c e).2⟩
 exact (nN h1 hkk hv2 ha2 kG j9 hok hs).mono fun r w' hr=>⟨hr.1,iC hr.2⟩
theorem Env.row8 (h:Env B q most flags w0 κ0 Kp x w):∃va vc,w.heap[q.p]? = some (ZO q flags (.slice va x.vals.length vc) x.e)∧jQ w 0 (.slice va x.vals.length vc) x.vals:=by
 obtain⟨κ,h1,_⟩:=h
 obtain⟨_,vv,k1,k2,_⟩:=h1.self
 obtain⟨va,vc,rfl,_⟩:=j8 k2
 exact⟨va,vc,k1,k2⟩
theorem Env.vals_at (h:Env B q most flags w0 κ0 Kp x w) {vv:Value} {e:Int} (hr:w.heap[q.p]? = some (ZO q flags vv e)):jQ w 0 vv x.vals:=by
 obtain⟨κ,h1,_⟩:=h
 obtain⟨_,v2,k1,k2,_⟩:=h1.self
 rw[hr] at k1
 injection k1 with k1
 injection k1 with k1
 have:vv=v2:=Option.some.inj (by exact congrArg (fun a:Array Value=>a[8]?) k1)
 subst this
 exact k2
theorem nO {w:World} {B:Nat} {a:Option Addr} {n c:Nat} {l:List V3} (h:jQ w B (.slice a n c) l) (hl:0 < l.length):∃g,a=some ⟨g,0,none⟩:=by
 rcases h.2 with ⟨e,h0⟩|⟨g,cap,cur,e,_⟩
 ·omega
 ·cases e;exact⟨g,rfl⟩
theorem Env.val3 (h:Env B q most flags w0 κ0 Kp x w) {vb n vc:Nat} {e:Int} (hr:w.heap[q.p]? = some (ZO q flags (.slice (some ⟨vb,0,none⟩) n vc) e)) {i:Nat} {k:V3} (hk:x.vals[i]? = some k):w.cell? ⟨vb,i*3,none⟩=some (.int .i64 k.1)∧w.cell? ⟨vb,i*3+1,none⟩=some (.int .i64 k.2.1)∧w.cell? ⟨vb,i*3+2,none⟩=some (.int .u64 k.2.2):=by
 obtain⟨_,_,e1,hcl⟩:=(h.vals_at hr).vals
 obtain⟨_,_,e2,t0,t1,t2⟩:=hcl i _ hk
 injection e1 with e1 _ _
 rw[← e1] at e2
 cases e2
 simp only[Nat.zero_add] at t0 t1 t2
 exact⟨t0,t1,t2⟩
def EnvI (B:Nat) (q:kE) (most flags:Int) (w0:World) (κ0:Nat→Nat) (Kp:List (Nat × Obj)) (vv:Value) (e:Int) (xs:List BS) (z:BS) (p:Nat) (w:World):Prop:=zX B q most flags w0 κ0 Kp xs z p w∧(p=0→w.heap[q.p]? = some (ZO q flags vv e))
theorem EnvI.grew {vv:Value} {e:Int} {xs:List BS} {z:BS}:∀(p:Nat) (w w':World),jB w w'→EnvI B q most flags w0 κ0 Kp vv e xs z p w→EnvI B q most flags w0 κ0 Kp vv e xs z p w':=fun p w w' hg h=>⟨zX.grew p w w' hg h.1,fun hp=>hg.heap (h.2 hp)⟩
end
theorem gF {B:Nat} {q:kE} {most flags:Int} {κ:Nat→Nat} {x:BS} {w:World} (n1 n2 n3:Nat) (i:Nat) (lv:Value) (l:List V3) (hv:ValsAt w lv l) (ha:zP κ w lv) (kG:∀c,lv=.slice none 0 c→c=0) (j9:l.length≤1048575) (hok:∀v∈l,okV v) (hi:i < x.vals.length) (hg:x.Good) (hx:x.e=0) (he:Env B q most flags w κ [(n3,Obj.cells #[lv] 51 (0,0)),(n2,Obj.cells #[.int .i64 i] 3 (0,0)),(n1,Obj.cells #[jF q.p] 23 (0,0))] x w):Calls prog 167 #[.pointer (some ⟨n1,0,none⟩),.pointer (some ⟨n2,0,none⟩),.pointer (some ⟨n3,0,none⟩)] w fun r w'=>r=.returned (.tuple #[])∧j1 B q most flags κ (x.tableEnd most i l) w w':=by
 have HE:=zh he
 have HM3:Hid ((n3,Obj.cells #[lv] 51 (0,0))∈([(n3,Obj.cells #[lv] 51 (0,0)),(n2,Obj.cells #[.int .i64 i] 3 (0,0)),(n1,Obj.cells #[jF q.p] 23 (0,0))]:List (Nat × Obj))):=List.mem_cons_self
 have HM2:Hid ((n2,Obj.cells #[.int .i64 i] 3 (0,0))∈([(n3,Obj.cells #[lv] 51 (0,0)),(n2,Obj.cells #[.int .i64 i] 3 (0,0)),(n1,Obj.cells #[jF q.p] 23 (0,0))]:List (Nat × Obj))):=List.mem_cons_of_mem _ (List.mem_cons_self)
 have HM1:Hid ((n1,Obj.cells #[jF q.p] 23 (0,0))∈([(n3,Obj.cells #[lv] 51 (0,0)),(n2,Obj.cells #[.int .i64 i] 3 (0,0)),(n1,Obj.cells #[jF q.p] 23 (0,0))]:List (Nat × Obj))):=List.mem_cons_of_mem _ (List.mem_cons_of_mem _ (List.mem_cons_self))
 obtain⟨k,hkv⟩:∃k,x.vals[i]? = some k:=⟨_,List.getElem?_eq_getElem hi⟩
 have HKO:Hid (okV k):=he.ok.okL k (List.mem_of_getElem? hkv)
 have hgd:x.vals.getD ((i:Nat):Int).toNat (0,0,0)=k:=by rw[Int.toNat_natCast,List.getD_eq_getElem?_getD,hkv];rfl
 have HPV:Hid (∀Kp w2,Env B q most flags w κ Kp x w2→Calls prog 168 #[jF q.b,vV k,lv] w2 fun r w'=>r=.returned (zM (yY most k l x.s).1)∧eG B q most flags w κ x {x with s:=(yY most k l x.s).2} w2 w'):=fun Kp w2 h=>h.mput HKO.out hv ha kG j9 hok (hg.s0 hx)
 have HVO:Hid (okV (yY most k l x.s).1.1):=nM he.ok.len he.ok.m1
 have HY:Hid (x.tableEnd most i l=(({x with s:=(yY most k l x.s).2}:BS).fail (yY most k l x.s).1.2).push (yY most k l x.s).1.1):=by show _=_;unfold BS.tableEnd;rw[if_pos hx,hgd]
 generalize yY most k l x.s=PP at HPV HVO HY
 obtain⟨⟨⟨ty,wd,n⟩,ee⟩,s1⟩:=PP
 obtain⟨k0,k1,k2⟩:=k
 have HKI:=zh hkv
 obtain⟨va,vc,jL,j3⟩:=he.row8
 obtain⟨vb,rfl⟩:=nO j3 (by omega)
 have HROW:=zh jL
 have hii:(i:Int) < x.vals.length:=by omega
 clear he hg hv ha hok kG hgd hkv jL j3 j9
 obtain⟨ev,hev⟩:∃ev,x.e=ev:=⟨_,rfl⟩
 rw[hev] at HROW
 clear hev hx
 go_enter func167,ntmps167
 go_wp2_with fail
 refine jO [14,19] (EnvI B q most flags w κ [(n3,Obj.cells #[lv] 51 (0,0)),(n2,Obj.cells #[.int .i64 i] 3 (0,0)),(n1,Obj.cells #[jF q.p] 23 (0,0))] (.slice (some ⟨vb,0,none⟩) x.vals.length vc) ev [x] ({x with s:=s1})) (fun _ w w'=>jB w w') (NewT 18 (yK B q most flags w κ [(n3,Obj.cells #[lv] 51 (0,0)),(n2,Obj.cells #[.int .i64 i] 3 (0,0)),(n1,Obj.cells #[jF q.p] 23 (0,0))] (.cells #[.int .i64 0,.int .i64 0,.int .u64 0] 92 (0,0)) (x)) (yK B q most flags w κ [(n3,Obj.cells #[lv] 51 (0,0)),(n2,Obj.cells #[.int .i64 i] 3 (0,0)),(n1,Obj.cells #[jF q.p] 23 (0,0))] (.cells #[.int .i64 0,.int .i64 0,.int .u64 0] 92 (0,0)) ({x with s:=s1})) (yK B q most flags w κ [(n3,Obj.cells #[lv] 51 (0,0)),(n2,Obj.cells #[.int .i64 i] 3 (0,0)),(n1,Obj.cells #[jF q.p] 23 (0,0))] (.cells #[.int .i64 ty,.int .i64 wd,.int .u64 n] 92 (0,0)) ({x with s:=s1}))) [[],[0],[0,1],[0,1,2],[0,1,2,3],[],[5],[5,6],[5,6,7],[5,6,7,8],[],[5,6,7,8,9,10],[5,6,7,8,9,10,11],[],[0,1,2,3,4,5,6,7,8,9,10,11,12,13],[0,1,2,3,4,5,6,7,8,9,10,11,12,13,14],[0,1,2,3,4,5,6,7,8,9,10,11,12,13,14,15],[0,1,2,3,4,5,6,7,8,9,10,11,12,13,14,15],[],[0,1,2,3,4,5,6,7,8,9,10,11,12,13,14,15,16,18],[0,1,2,3,4,5,6,7,8,9,10,11,12,13,14,15,16,17,18,19]] [[(11,5),(12,6),(13,7),(14,8),(15,9),(16,10),(17,11),(18,12),(19,13),(3,18)],[(6,0),(11,5),(12,6),(13,7),(14,8),(15,9),(16,10),(17,11),(18,12),(19,13),(3,18)],[(6,0),(7,1),(11,5),(12,6),(13,7),(14,8),(15,9),(16,10),(17,11),(18,12),(19,13),(3,18)],[(6,0),(7,1),(8,2),(11,5),(12,6),(13,7),(14,8),(15,9),(16,10),(17,11),(18,12),(19,13),(3,18)],[(6,0),(7,1),(8,2),(9,3),(11,5),(12,6),(13,7),(14,8),(15,9),(16,10),(17,11),(18,12),(19,13),(3,18)],[(6,0),(7,1),(8,2),(9,3),(10,4),(16,10),(19,13),(3,18)],[(6,0),(7,1),(8,2),(9,3),(10,4),(11,5),(16,10),(19,13),(3,18)],[(6,0),(7,1),(8,2),(9,3),(10,4),(11,5),(12,6),(16,10),(19,13),(3,18)],[(6,0),(7,1),(8,2),(9,3),(10,4),(11,5),(12,6),(13,7),(16,10),(19,13),(3,18)],[(6,0),(7,1),(8,2),(9,3),(10,4),(11,5),(12,6),(13,7),(14,8),(16,10),(19,13),(3,18)],[(6,0),(7,1),(8,2),(9,3),(10,4),(11,5),(12,6),(13,7),(14,8),(15,9),(19,13),(3,18)],[(6,0),(7,1),(8,2),(9,3),(10,4),(11,5),(12,6),(13,7),(14,8),(15,9),(16,10),(19,13),(3,18)],[(6,0),(7,1),(8,2),(9,3),(10,4),(11,5),(12,6),(13,7),(14,8),(15,9),(16,10),(17,11),(19,13),(3,18)],[(6,0),(7,1),(8,2),(9,3),(10,4),(11,5),(12,6),(13,7),(14,8),(15,9),(16,10),(17,11),(18,12),(3,18)],[(6,0),(7,1),(8,2),(9,3),(10,4),(11,5),(12,6),(13,7),(14,8),(15,9),(16,10),(17,11),(18,12),(19,13),(3,18)],[(6,0),(7,1),(8,2),(9,3),(10,4),(11,5),(12,6),(13,7),(14,8),(15,9),(16,10),(17,11),(18,12),(19,13),(20,14),(3,18)],[(6,0),(7,1),(8,2),(9,3),(10,4),(11,5),(12,6),(13,7),(14,8),(15,9),(16,10),(17,11),(18,12),(19,13),(20,14),(5,15),(22,17),(3,18)],[(6,0),(7,1),(8,2),(9,3),(10,4),(11,5),(12,6),(13,7),(14,8),(15,9),(16,10),(17,11),(18,12),(19,13),(20,14),(5,15),(21,16),(3,18)],[(6,0),(7,1),(8,2),(9,3),(10,4),(11,5),(12,6),(13,7),(14,8),(15,9),(16,10),(17,11),(18,12),(19,13),(20,14),(5,15),(21,16),(22,17)],[(6,0),(7,1),(8,2),(9,3),(10,4),(11,5),(12,6),(13,7),(14,8),(15,9),(16,10),(17,11),(18,12),(19,13),(20,14),(5,15),(21,16),(22,17),(3,18)],[(6,0),(7,1),(8,2),(9,3),(10,4),(11,5),(12,6),(13,7),(14,8),(15,9),(16,10),(17,11),(18,12),(19,13),(20,14),(5,15),(21,16),(22,17),(3,18)]] [(6,0),(7,1),(8,2),(9,3),(10,4),(11,5),(12,6),(13,7),(14,8),(15,9),(16,10),(17,11),(18,12),(19,13),(20,14),(5,15),(21,16),(22,17),(3,18),(4,20)]
  [IsP (jF q.p),IsP (jF q.p),IsP (jF q.p),IsP (jF q.p),IsP (jF q.b),IsP (jF q.p),IsP (jF q.p),IsP (.pointer (some ⟨q.p,3,none⟩)),IsP (.pointer (some ⟨q.p,8,none⟩)),IsP (.slice (some ⟨vb,0,none⟩) x.vals.length vc),IsP (.int .i64 i),IsP (.pointer (some ⟨vb,i*3,none⟩)),IsP (.agg #[.int .i64 k0,.int .i64 k1,.int .u64 k2]),IsP (lv),IsP (.tuple #[.agg #[.int .i64 ty,.int .i64 wd,.int .u64 n],.int .i64 ee]),IsP (.tuple #[.agg #[.int .i64 ty,.int .i64 wd,.int .u64 n],.int .i64 ee]),IsP (.agg #[.int .i64 ty,.int .i64 wd,.int .u64 n]),IsP (.int .i64 ee),ZP (yK B q most flags w κ [(n3,Obj.cells #[lv] 51 (0,0)),(n2,Obj.cells #[.int .i64 i] 3 (0,0)),(n1,Obj.cells #[jF q.p] 23 (0,0))] (.cells #[.int .i64 0,.int .i64 0,.int .u64 0] 92 (0,0)) (x)) (yK B q most flags w κ [(n3,Obj.cells #[lv] 51 (0,0)),(n2,Obj.cells #[.int .i64 i] 3 (0,0)),(n1,Obj.cells #[jF q.p] 23 (0,0))] (.cells #[.int .i64 0,.int .i64 0,.int .u64 0] 92 (0,0)) ({x with s:=s1})) (yK B q most flags w κ [(n3,Obj.cells #[lv] 51 (0,0)),(n2,Obj.cells #[.int .i64 i] 3 (0,0)),(n1,Obj.cells #[jF q.p] 23 (0,0))] (.cells #[.int .i64 ty,.int .i64 wd,.int .u64 n] 92 (0,0)) ({x with s:=s1})),fun _ _ _=>True,IsP (.int .i64 ee)]
  zk (EnvI.grew) (⟨HE.out.grew (jB.refl _).drew,fun _=>(jB.refl w).drew.heap HROW.out⟩) zk zk ⟨jC,jC,jC,jC,jC,jC,jC,jC,jC,jC,jC,jC,jC,jC,jC,jC,jC,jC,ZP.st yK.grew yK.grew yK.grew,⟨fun _ _ _ _ _ h=>h,fun _ _ _ _ _ h=>h⟩,jC,trivial⟩ rfl ?_ ?_
 ·intro y w2 hW hF
  simp only[kT,IsP,Nat.reduceAdd,List.length_cons,List.length_nil] at hF hW
  have h0:=hF.1
  have h1:=hF.2.1
  have h2:=hF.2.2.1
  have h3:=hF.2.2.2.1
  have h4:=hF.2.2.2.2.1
  have h5:=hF.2.2.2.2.2.1
  have h6:=hF.2.2.2.2.2.2.1
  have h7:=hF.2.2.2.2.2.2.2.1
  have h8:=hF.2.2.2.2.2.2.2.2.1
  have h9:=hF.2.2.2.2.2.2.2.2.2.1
  have h10:=hF.2.2.2.2.2.2.2.2.2.2.1
  have h11:=hF.2.2.2.2.2.2.2.2.2.2.2.1
  have h12:=hF.2.2.2.2.2.2.2.2.2.2.2.2.1
  have h13:=hF.2.2.2.2.2.2.2.2.2.2.2.2.2.1
  have h14:=hF.2.2.2.2.2.2.2.2.2.2.2.2.2.2.1
  have h15:=hF.2.2.2.2.2.2.2.2.2.2.2.2.2.2.2.1
  have h16:=hF.2.2.2.2.2.2.2.2.2.2.2.2.2.2.2.2.1
  have h17:=hF.2.2.2.2.2.2.2.2.2.2.2.2.2.2.2.2.2.1
  have h18:=hF.2.2.2.2.2.2.2.2.2.2.2.2.2.2.2.2.2.2.1
  have h20:=hF.2.2.2.2.2.2.2.2.2.2.2.2.2.2.2.2.2.2.2.2.1
  clear hF
  simp only[jA,Act.put,zq1,zq2,zq3,zq4,zq5]
  simp only[h0,h1,h2,h3,h4,h5,h6,h7,h8,h9,h10,h11,h12,h13,h14,h15,h16,h17,h20]
  clear h0 h1 h2 h3 h4 h5 h6 h7 h8 h9 h10 h11 h12 h13 h14 h15 h16 h17 h20
  obtain⟨nn,e18,hE⟩:=(show ZP _ _ _ 2 _ _ from h18)
  simp only[e18]
  have HE2:=zh hE.2
  clear h18 e18 hE hW
  have HM1b:Hid ((n1,Obj.cells #[jF q.p] 23 (0,0))∈(((nn,Obj.cells #[.int .i64 ty,.int .i64 wd,.int .u64 n] 92 (0,0))::[(n3,Obj.cells #[lv] 51 (0,0)),(n2,Obj.cells #[.int .i64 i] 3 (0,0)),(n1,Obj.cells #[jF q.p] 23 (0,0))]):List (Nat × Obj))):=List.mem_cons_of_mem _ HM1.out
  have cb:=Env.cell HE2.out HM1b.out 0 _ rfl
  go_wp2_with fail
  refine (HE2.out.call fun κ1 hb hz=>kN ee hb).mono ?_
  rintro r w3 ⟨rfl,he⟩
  have HE3:=zh he
  clear he cb
  go_wp2_with fail
  refine jO [4] (zX B q most flags w κ ((nn,Obj.cells #[.int .i64 ty,.int .i64 wd,.int .u64 n] 92 (0,0))::[(n3,Obj.cells #[lv] 51 (0,0)),(n2,Obj.cells #[.int .i64 i] 3 (0,0)),(n1,Obj.cells #[jF q.p] 23 (0,0))]) [(({x with s:=s1}:BS).fail ee)] ((({x with s:=s1}:BS).fail ee).push (ty,wd,n))) (fun _ w w'=>jB w w') ((fun p (_:Nat→Value)=>(fun _ _ _=>True) p)) [[],[0],[0,1],[],[0,1,2,3]] [[(31,3)],[(28,0),(31,3)],[(28,0),(29,1),(31,3)],[(28,0),(29,1),(30,2)],[(28,0),(29,1),(30,2),(31,3)]] [(28,0),(29,1),(30,2),(31,3),(32,4)]
   [IsP (jF q.p),IsP (jF q.p),IsP (jF q.p),IsP (.agg #[.int .i64 ty,.int .i64 wd,.int .u64 n]),IsP (.tuple #[])]
   zk (zX.grew) (HE3.out.grew (jB.refl _).drew) zk zk ⟨jC,jC,jC,jC,jC,trivial⟩ rfl ?_ ?_
  ·intro y w2 hW hF
   simp only[kT,IsP,Nat.reduceAdd,List.length_cons,List.length_nil] at hF hW
   have h0:=hF.1
   have h1:=hF.2.1
   have h2:=hF.2.2.1
   have h3:=hF.2.2.2.1
   have h4:=hF.2.2.2.2.1
   clear hF
   simp only[jA,Act.put,zq1,zq2,zq3,zq4,zq5]
   simp only[h0,h1,h2,h3,h4]
   clear h0 h1 h2 h3 h4
   go_wp2
   go_end0
   exact⟨rfl,by rw[HY.out];exact Env.turn hW⟩
  refine⟨?_,?_⟩
  ·refine jJ 0 0 ?_
   intro y w2 p hlo hhi hW hD K hK
   have dq:=Env.cell hW HM1b.out 0 _ rfl
   exact zqr
  refine⟨zqd,zqd,?_⟩
  refine⟨?_,?_⟩
  ·refine jJ 0 0 ?_
   intro y w2 p hlo hhi hW hD K hK
   have dd0:=Env.cell hW List.mem_cons_self 0 _ rfl
   have dd1:=Env.cell hW List.mem_cons_self 1 _ rfl
   have dd2:=Env.cell hW List.mem_cons_self 2 _ rfl
   exact zqr
  refine⟨?_,?_⟩
  ·refine jP 0 rfl ?_
   intro y w2 hW hD K hK
   simp only[jU,zq4,zq5,IsP] at hD
   have h0:=hD.1
   have h1:=hD.2.1
   have h2:=hD.2.2.1
   have h3:=hD.2.2.2.1
   clear hD
   generalize hAA:jA y _ _=AA at hK⊢
   simp only[jA,Act.put,zq1,zq2,zq3,zq4,zq5,IsP] at hAA
   subst hAA
   simp only[zq4,zq5,IsP] at hK
   simp only[h0,h1,h2,h3] at hK⊢
   clear h0 h1 h2 h3
   refine jG ?_
   go_simp
   refine (Env.call hW fun κ1 hb hz=>qD (ty,wd,n) HVO.out hb).mono ?_
   rintro r w3 ⟨rfl,he⟩
   exact hK _ _ _ rfl trivial he rfl
  trivial
 refine⟨?_,?_⟩
 ·refine jJ 0 0 ?_
  intro y w2 p hlo hhi hW hD K hK
  have d10:=Env.cell hW.1 HM1.out 0 _ rfl
  exact zqr
 refine⟨zqd,zqd,zqd,?_⟩
 refine⟨?_,?_⟩
 ·refine jJ 0 0 ?_
  intro y w2 p hlo hhi hW hD K hK
  have dd:=Env.at0 hW.1
  exact zqr
 refine⟨?_,?_⟩
 ·refine jJ 0 0 ?_
  intro y w2 p hlo hhi hW hD K hK
  have d10:=Env.cell hW.1 HM1.out 0 _ rfl
  exact zqr
 refine⟨zqd,zqd,zqd,?_⟩
 refine⟨?_,?_⟩
 ·refine jJ 0 0 ?_
  intro y w2 p hlo hhi hW hD K hK
  obtain rfl:p=0:=by omega
  have dd:=jK (hW.2 rfl) 8 _ rfl
  exact zqr
 refine⟨?_,?_⟩
 ·refine jJ 0 0 ?_
  intro y w2 p hlo hhi hW hD K hK
  have d20:=Env.cell hW.1 HM2.out 0 _ rfl
  exact zqr
 refine⟨zqd,?_⟩
 refine⟨?_,?_⟩
 ·refine jJ 0 0 ?_
  intro y w2 p hlo hhi hW hD K hK
  obtain rfl:p=0:=by omega
  have tt:=Env.val3 hW.1 (hW.2 rfl) HKI.out
  have t0:w2.cell? ⟨vb,i*3,none⟩=some (.int .i64 k0):=tt.1
  have t1:w2.cell? ⟨vb,i*3+1,none⟩=some (.int .i64 k1):=tt.2.1
  have t2:w2.cell? ⟨vb,i*3+2,none⟩=some (.int .u64 k2):=tt.2.2
  clear tt
  exact zqr
 refine⟨?_,?_⟩
 ·refine jJ 0 0 ?_
  intro y w2 p hlo hhi hW hD K hK
  have d30:=Env.cell hW.1 HM3.out 0 _ rfl
  exact zqr
 refine⟨?_,?_⟩
 ·refine jP 0 rfl ?_
  intro y w2 hW hD K hK
  simp only[jU,zq4,zq5,IsP] at hD
  have h0:=hD.1
  have h1:=hD.2.1
  have h2:=hD.2.2.1
  have h3:=hD.2.2.2.1
  have h4:=hD.2.2.2.2.1
  have h5:=hD.2.2.2.2.2.1
  have h6:=hD.2.2.2.2.2.2.1
  have h7:=hD.2.2.2.2.2.2.2.1
  have h8:=hD.2.2.2.2.2.2.2.2.1
  have h9:=hD.2.2.2.2.2.2.2.2.2.1
  have h10:=hD.2.2.2.2.2.2.2.2.2.2.1
  have h11:=hD.2.2.2.2.2.2.2.2.2.2.2.1
  have h12:=hD.2.2.2.2.2.2.2.2.2.2.2.2.1
  have h13:=hD.2.2.2.2.2.2.2.2.2.2.2.2.2.1
  clear hD
  generalize hAA:jA y _ _=AA at hK⊢
  simp only[jA,Act.put,zq1,zq2,zq3,zq4,zq5,IsP] at hAA
  subst hAA
  simp only[zq4,zq5,IsP] at hK
  simp only[h0,h1,h2,h3,h4,h5,h6,h7,h8,h9,h10,h11,h12,h13] at hK⊢
  clear h0 h1 h2 h3 h4 h5 h6 h7 h8 h9 h10 h11 h12 h13
  refine jG ?_
  go_simp
  refine (HPV.out _ w2 hW.1).mono ?_
  rintro r w3 ⟨rfl,hA⟩
  exact hK _ _ _ rfl (yK.all hA) ⟨hA _ hW.1,fun h=>absurd h (by decide)⟩ rfl
 refine⟨zqd,zqd,zqd,?_⟩
 refine⟨?_,?_⟩
 ·refine jJ 0 1 ?_
  intro y w2 p hlo hhi hW hD K hK
  clear hD
  generalize hAA:jA y _ _=AA at hK⊢
  simp only[jA,Act.put,zq1,zq2,zq3,zq4,zq5,IsP] at hAA
  subst hAA
  simp only[zq4,zq5,IsP] at hK
  refine jG ?_
  go_simp
  rcases (by omega:p=0∨p=1) with rfl|rfl
  ·exact hK _ _ _ rfl ((jB.refl _).alloc _) (show ZP _ _ _ 0 _ _ from ⟨_,rfl,Env.newE hW.1 _⟩)
  ·exact hK _ _ _ rfl ((jB.refl _).alloc _) (show ZP _ _ _ 1 _ _ from ⟨_,rfl,Env.newE hW.1 _⟩)
 refine⟨?_,?_⟩
 ·refine jP 1 rfl ?_
  intro y w2 hW hD K hK
  simp only[jU,zq4,zq5,IsP] at hD
  have h0:=hD.1
  have h1:=hD.2.1
  have h2:=hD.2.2.1
  have h3:=hD.2.2.2.1
  have h4:=hD.2.2.2.2.1
  have h5:=hD.2.2.2.2.2.1
  have h6:=hD.2.2.2.2.2.2.1
  have h7:=hD.2.2.2.2.2.2.2.1
  have h8:=hD.2.2.2.2.2.2.2.2.1
  have h9:=hD.2.2.2.2.2.2.2.2.2.1
  have h10:=hD.2.2.2.2.2.2.2.2.2.2.1
  have h11:=hD.2.2.2.2.2.2.2.2.2.2.2.1
  have h12:=hD.2.2.2.2.2.2.2.2.2.2.2.2.1
  have h13:=hD.2.2.2.2.2.2.2.2.2.2.2.2.2.1
  have h14:=hD.2.2.2.2.2.2.2.2.2.2.2.2.2.2.1
  have h15:=hD.2.2.2.2.2.2.2.2.2.2.2.2.2.2.2.1
  have h16:=hD.2.2.2.2.2.2.2.2.2.2.2.2.2.2.2.2.1
  have h18:=hD.2.2.2.2.2.2.2.2.2.2.2.2.2.2.2.2.2.1
  clear hD
  generalize hAA:jA y _ _=AA at hK⊢
  simp only[jA,Act.put,zq1,zq2,zq3,zq4,zq5,IsP] at hAA
  subst hAA
  simp only[zq4,zq5,IsP] at hK
  simp only[h0,h1,h2,h3,h4,h5,h6,h7,h8,h9,h10,h11,h12,h13,h14,h15,h16] at hK⊢
  clear h0 h1 h2 h3 h4 h5 h6 h7 h8 h9 h10 h11 h12 h13 h14 h15 h16
  obtain⟨nn,e18,hE⟩:=h18
  simp only[e18] at hK⊢
  have jL:=hE.2.kp List.mem_cons_self
  have f0:=jE jL 0
  have f1:=jE jL 1
  have f2:=jE jL 2
  have c0:=jK jL 0 _ rfl
  have c1:=jK jL 1 _ rfl
  have c2:=jK jL 2 _ rfl
  clear jL
  refine jG ?_
  go_simp
  have hs:=yK.tell hE (gB w2 nn (.int .i64 ty) (.int .i64 wd) (.int .u64 n)) (set3 (hE.2.kp List.mem_cons_self))
  exact hK _ undef _ rfl (fun n' e' _=>by rw[e18] at e';cases e';exact hs) ⟨hs.env,fun h=>absurd h (by decide)⟩ trivial
 refine⟨zqd,?_⟩
 trivial
theorem eP {o:Oper} {a:Act} {K:Act→World→Prop} {Q:Exit→Act→World→Prop} (w:World) (s x:Operand) (ho:o.op=.call {callee:=.builtin .append,args:=#[s,x],argTypes:=#[51,51]})
 (v:Value) (l:List V3) (hs:a.eval s=v) (j3:jQ w 0 v l) (sv:Value) (z:V3) (g:Nat) (hx:a.eval x=sv) (hsv:ValsAt w sv [z]) (hg:sv=.slice (some ⟨g,0,none⟩) 1 1) (j9:l.length≤1048577)
 (h:∀v' w',jQ w' 0 v' (l++[z])→w.grownBy w' v.ownBlock→zJ w v.ownBlock v'.ownBlock→K (a.put o.dst v') w'):o.wp prog a w K Q:=by
 obtain⟨i0,hi,hz0,hz1,hz2⟩:=aO
 subst hg
 obtain⟨v',w',hr,h2,h3,h4⟩:=yQ (P:=prog) w 0 51 o.type 92 i0 (.agg #[.int .i64 0,.int .i64 0,.int .u64 0]) 3 24 underlying51 hi hz0 hz1 hz2 rfl (by decide) v l.length _ j3 ⟨g,0,none⟩ 1 1 (kD [z]) (vC [z]) (Q6 hsv) (Z7 [z]) (by unfold maxLen;omega) (by omega) (Nat.zero_le _)
 refine Lib.wp_append_run w s x 51 51 ho v _ hs hx v' w' hr (h v' w' ?_ h3 h4)
 unfold jQ
 rw[List.length_append,J5]
 exact h2
section
variable {B:Nat} {q:kE} {most flags:Int} {κ κ0 κ1:Nat→Nat} {x y:BS} {w w' w0 wa:World} {Kp:List (Nat × Obj)}
def ApW (wa:World) (vv:Value) (P2:World→Prop):Nat→World→Prop
 | 0,w=>jB wa w
 | 1,w=>Moved (fun k=>some k=vv.ownBlock) wa w
 | _+2,w=>P2 w
theorem ApW.grew {vv:Value} {P2:World→Prop} (h2:∀w w',jB w w'→P2 w→P2 w'):∀(p:Nat) (w w':World),jB w w'→ApW wa vv P2 p w→ApW wa vv P2 p w'
 | 0,_,_,hg,h=>jB.trans h hg
 | 1,_,_,hg,h=>Moved.trans h (Moved.of_grew (S:=fun _=>False) hg) (fun _ _ e=>e.elim)
 | _+2,_,_,hg,h=>h2 _ _ hg h
theorem ApW.old {vv:Value} {P2:World→Prop} {p:Nat} (h:ApW wa vv P2 p w) (hp:p≤1) {k:Nat} {o:Obj} (ho:wa.heap[k]? = some o) (hne:¬some k=vv.ownBlock):w.heap[k]? = some o:=by
 match p,h,hp with
 | 0,h,_=>exact jB.heap h ho
 | 1,h,_=>exact Moved.heap h ho hne
def ApF (wa:World) (vv:Value) (L':List V3):Nat→Value→World→Prop
 | 0,_,_=>False
 | 1,v,w=>jQ w 0 v L'∧zJ wa vv.ownBlock v.ownBlock
 | _+2,_,_=>True
theorem ApF.st {vv:Value} {L':List V3}:(∀p v w w',(fun (_:Nat) w w'=>jB w w') p w w'→ApF wa vv L' p v w→ApF wa vv L' p v w')∧∀p v w w',(fun _ _ _=>True:Nat→World→World→Prop) p w w'→ApF wa vv L' p v w→ApF wa vv L' (p+1) v w':=by
 refine⟨fun p v w w' hg h=>?_,fun p v w w' _ h=>?_⟩
 ·match p,h with
  | 1,h=>exact⟨yE h.1 hg,h.2⟩
  | _+2,_=>trivial
 ·match p,h with
  | 1,_=>trivial
  | _+2,_=>trivial
theorem Bd.setVals {vv v':Value} {L':List V3} (h:Bd B q most flags κ x wa) (hr:wa.heap[q.p]? = some (ZO q flags vv x.e)) (hm:Moved (fun k=>some k=vv.ownBlock) wa w) (ho:jQ w 0 v' L') (hn:zJ wa vv.ownBlock v'.ownBlock) (hl:L'.length≤1048577) (hok:∀u∈L',okV u) :
 j1 B q most flags κ {x with vals:=L'} wa (w.setCell ⟨q.p,8,none⟩ v'):=by
 obtain⟨h0,v2,h1,h2,h3⟩:=h.self
 have e:v2=vv:=by
  rw[hr] at h1
  injection h1 with h1
  injection h1 with h1
  exact (Option.some.inj (by exact congrArg (fun a:Array Value=>a[8]?) h1)).symm
 subst e
 have hne:¬some q.p=v2.ownBlock:=fun e=>zR h2 hr (by decide) e.symm
 have hrw:w.heap[q.p]? = some (ZO q flags v2 x.e):=hm.heap hr hne
 have hm2:Moved (fun k=>k=q.p) w (w.setCell ⟨q.p,8,none⟩ v'):=zF w q.p 8 _
 have hM:Moved (fun k=>κ k=1) wa (w.setCell ⟨q.p,8,none⟩ v'):=(hm.mono (fun j _ hj=>h3 j hj.symm)).trans hm2 (fun j _ hj=>by show κ j=1;rw[hj];exact h0)
 refine h.self_step (S':=fun k=>κ k=1∨v'.ownBlock=some k) hl hok ⟨.inl h0,v',?_,hm2.owns ho (fun k hk e=>zR ho hrw (by decide) (by rw[hk,e])),fun g hg=>.inr hg⟩ (fun k hk=>?_) hM
 ·have:=heap_setCell_same w q.p 8 _ _ v' hrw
  simpa using this
 ·rcases hk with hk|hk
  ·exact .inl hk
  ·rcases hn k hk with e|e
   ·exact .inl (h3 k e)
   ·exact .inr ⟨e,Nat.lt_of_lt_of_le (vH ho hk) hm2.size⟩
theorem Env.setVals {vv v':Value} {L':List V3} (h:Env B q most flags w0 κ0 Kp x wa) (hr:wa.heap[q.p]? = some (ZO q flags vv x.e)) (hm:Moved (fun k=>some k=vv.ownBlock) wa w) (ho:jQ w 0 v' L') (hn:zJ wa vv.ownBlock v'.ownBlock) (hl:L'.length≤1048577) (hok:∀u∈L',okV u) :
 Env B q most flags w0 κ0 Kp {x with vals:=L'} (w.setCell ⟨q.p,8,none⟩ v'):=h.after fun κ hb _=>hb.setVals hr hm ho hn hl hok
theorem Env.mono {Kp':List (Nat × Obj)} (h:Env B q most flags w0 κ0 Kp' x w) (hs:∀z∈Kp,z∈Kp'):Env B q most flags w0 κ0 Kp x w:=by
 obtain⟨κ,h1,h2,h3⟩:=h
 exact⟨κ,h1,h2,fun z hz=>h3 z (hs z hz)⟩
theorem Env.mkeys {lv:Value} {l:List V3} (h:Env B q most flags w0 κ0 Kp x w) (hv:ValsAt w0 lv l) (ha:zP κ0 w0 lv) (j9:l.length≤1048576) (hok:∀v∈l,okV v) (hs:x.s.2=0) :
 Calls prog 166 #[jF q.b,lv] w fun r w'=>r=.returned (zM (zC most 4 0 l x.s).1)∧eG B q most flags w0 κ0 x {x with s:=(zC most 4 0 l x.s).2} w w':=by
 have HE:Hid (Env B q most flags w0 κ0 ((w.heap.size,.cells #[.int .i64 0,.int .i64 0,.int .u64 0] 92 (0,0))::Kp) x (w.alloc (.cells #[.int .i64 0,.int .i64 0,.int .u64 0] 92))):=h.add _
 have HC:=zh (HE.out.vput (elem:=4) (many:=0) (.inr (.inl ⟨by decide,rfl,by kernel_rfl⟩)) hv ha j9 hok hs)
 obtain⟨a,c,rfl,_⟩:=hv
 clear h ha j9 hok hs
 generalize zC most 4 0 l x.s=PP at *
 obtain⟨⟨⟨ty,wd,n⟩,ee⟩,s1⟩:=PP
 go_enter func166,ntmps166
 go_wp2_with fail
 refine HC.out.mono ?_
 rintro r w2 ⟨rfl,hA⟩
 have HA:=zh hA
 have jL:=(hA _ HE.out).kp List.mem_cons_self
 have f0:=jE jL 0
 have f1:=jE jL 1
 have f2:=jE jL 2
 have c0:=jK jL 0 _ rfl
 have c1:=jK jL 1 _ rfl
 have c2:=jK jL 2 _ rfl
 have HR:=zh jL
 clear hA jL
 rw[show zM ((ty,wd,n),ee)=.tuple #[.agg #[.int .i64 ty,.int .i64 wd,.int .u64 n],.int .i64 ee] from rfl]
 go_wp2_with fail
 refine bodyPost_ret (v:=.tuple #[.agg #[.int .i64 ty,.int .i64 wd,.int .u64 n],.int .i64 ee]) (by simp[results,results166,go_sem,c0,c1,c2]) rfl ⟨rfl,fun Kp' hE=>?_⟩
 exact (yK.tell (yK.all HA.out _ (hE.newE (.cells #[.int .i64 0,.int .i64 0,.int .u64 0] 92 (0,0)))) (gB w2 w.heap.size (.int .i64 ty) (.int .i64 wd) (.int .u64 n)) (set3 HR.out)).env
end
theorem lJ {B:Nat} {q:kE} {most flags:Int} {κ:Nat→Nat} {x:BS} {w:World} (list:ByteArray) (ka:Option Addr) (kc:Nat) (keys:List V3) (va:Option Addr) (vc:Nat) (vals:List V3) (hk:ValsAt w (.slice ka keys.length kc) keys) (hka:zP κ w (.slice ka keys.length kc)) (hv:ValsAt w (.slice va vals.length vc) vals) (hva:zP κ w (.slice va vals.length vc)) (kG:∀c,Value.slice va vals.length vc=.slice none 0 c→c=0) (hkl:keys.length≤1048575) (hvl:vals.length≤1048575) (hko:∀v∈keys,okV v) (hvo:∀v∈vals,okV v) (hg:x.Good) (hx:x.e=0) (h:Bd B q most flags κ x w):Calls prog 106 #[jF q.p,.string list,.slice ka keys.length kc,.slice va vals.length vc] w fun r w'=>r=.returned (.tuple #[])∧j1 B q most flags κ (x.table most (onF flags 4) list keys vals) w w':=by
 have HE:Hid (Env B q most flags w κ [(w.heap.size+1,Obj.cells #[.slice va vals.length vc] 51 (0,0)),(w.heap.size,Obj.cells #[jF q.p] 23 (0,0))] x ((w.alloc (.cells #[jF q.p] 23)).alloc (.cells #[.slice va vals.length vc] 51))):=by
  have hh:=((Env.start h).add (.cells #[jF q.p] 23)).add (.cells #[.slice va vals.length vc] 51)
  simp only[World.size_alloc,Nat.add_assoc,Nat.reduceAdd] at hh
  exact hh
 have HM1:Hid ((w.heap.size,Obj.cells #[jF q.p] 23 (0,0))∈([(w.heap.size+1,Obj.cells #[.slice va vals.length vc] 51 (0,0)),(w.heap.size,Obj.cells #[jF q.p] 23 (0,0))]:List (Nat × Obj))):=List.mem_cons_of_mem _ List.mem_cons_self
 have HM2:Hid ((w.heap.size+1,Obj.cells #[.slice va vals.length vc] 51 (0,0))∈([(w.heap.size+1,Obj.cells #[.slice va vals.length vc] 51 (0,0)),(w.heap.size,Obj.cells #[jF q.p] 23 (0,0))]:List (Nat × Obj))):=List.mem_cons_self
 have HTE:=zh (BS.table_eq most (onF flags 4) list keys vals x)
 have HMK:Hid (∀Kp w2,Env B q most flags w κ Kp x w2→Calls prog 166 #[jF q.b,.slice ka keys.length kc] w2 fun r w'=>r=.returned (zM (zC most 4 0 keys x.s).1)∧eG B q most flags w κ x {x with s:=(zC most 4 0 keys x.s).2} w2 w'):=fun Kp w2 h=>h.mkeys hk hka (by omega) hko (hg.s0 hx)
 have HNG:=zh (hg.newList (most:=most) (list:=list) (keys:=keys) hx)
 have HOKN:Hid (okV (zC most 4 0 keys x.s).1.1):=bB h.ok.len h.ok.m1
 generalize zC most 4 0 keys x.s=PP at HTE HMK HNG HOKN
 obtain⟨⟨⟨ty,wd,n⟩,ee⟩,s1⟩:=PP
 have HIX:Hid ((yF x.lists list).2=true→∃i:Nat,(yF x.lists list).1=i∧i < x.vals.length):=fun hb=>by
  unfold yF at hb⊢
  split at hb
  ·rename_i hh
   rw[if_pos hh]
   have hlt:=bW hh
   have h1:=hg.ix hx _ (List.getElem_mem hlt)
   have e:(J9 x.lists).getD (yH x.lists list) 0=(x.lists[yH x.lists list]).2:=by simp[J9,List.getD_eq_getElem?_getD,hlt]
   dsimp only
   rw[e]
   exact⟨_,(Int.toNat_of_nonneg h1.1).symm,by omega⟩
  ·cases hb
 have HLS:Hid (x.lists.length≤1048576):=Nat.le_trans (hg.ls hx) HE.out.len
 have HVS:Hid (x.vals.length≤1048576):=Nat.le_trans (hg.vs hx) HE.out.len
 have HOL:Hid (∀u∈x.vals,okV u):=h.ok.okL
 have HT1:Hid (∀(y:BS) (i:Nat) (κ1:Nat→Nat) (w2:World) (n1 n2 n3:Nat),y.Good→y.e=0→i < y.vals.length→Tn κ κ1 w w2→Env B q most flags w2 κ1 [(n3,Obj.cells #[.slice va vals.length vc] 51 (0,0)),(n2,Obj.cells #[.int .i64 i] 3 (0,0)),(n1,Obj.cells #[jF q.p] 23 (0,0))] y w2→Calls prog 167 #[.pointer (some ⟨n1,0,none⟩),.pointer (some ⟨n2,0,none⟩),.pointer (some ⟨n3,0,none⟩)] w2 fun r w'=>r=.returned (.tuple #[])∧j1 B q most flags κ1 (y.tableEnd most i vals) w2 w'):=fun y i κ1 w2 n1 n2 n3 g1 g2 g3 ht g4=>gF n1 n2 n3 i _ vals (YC hv hva ht) (hva.tn ht) kG hvl hvo g3 g1 g2 g4
 have HX:=zh hx
 have HG:=zh hg
 clear h hk hka hv hva kG hko hvo hg hkl hvl hx
 have cb:=Env.cell HE.out HM1.out 0 _ rfl
 have c6:=HE.out.at6
 go_enter func106,ntmps106
 go_wp2_with fail
 generalize (w.alloc (.cells #[jF q.p] 23)).alloc (.cells #[.slice va vals.length vc] 51)=w1 at *
 refine (HE.out.listsGet list).mono ?_
 rintro r w2 ⟨rfl,hg2⟩
 have HE1:=zh (HE.out.grew hg2)
 clear hg2 cb c6
 have HSZ:Hid (w.heap.size < w2.heap.size∧w.heap.size+1 < w2.heap.size):=⟨(Array.getElem?_eq_some_iff.1 (HE1.out.kp HM1.out)).1,(Array.getElem?_eq_some_iff.1 (HE1.out.kp HM2.out)).1⟩
 generalize yF x.lists list=g at *
 obtain⟨ga,gb⟩:=g
 have HB1:=zh (HE1.out.add (.cells #[.int .i64 ga] 3))
 have cb1:=Env.cell HB1.out (List.mem_cons_of_mem _ HM1.out) 0 _ rfl
 have cl1:=Env.cell HB1.out (List.mem_cons_of_mem _ HM2.out) 0 _ rfl
 cases gb with
 | false=>
  have c0:=HB1.out.at0
  go_wp2_with fail
  skip
  refine (HMK.out _ _ HB1.out).mono ?_
  rintro r w4 ⟨rfl,hA⟩
  have HE3:=zh (hA _ HB1.out)
  rw[show zM ((ty,wd,n),ee)=.tuple #[.agg #[.int .i64 ty,.int .i64 wd,.int .u64 n],.int .i64 ee] from rfl]
  clear hA c0 cb1 cl1
  have HB4:=zh (HE3.out.add (.cells #[.int .i64 ty,.int .i64 wd,.int .u64 n] 92))
  have cb4:=Env.cell HB4.out (List.mem_cons_of_mem _ (List.mem_cons_of_mem _ HM1.out)) 0 _ rfl
  have HS4:Hid (w2.heap.size < w4.heap.size∧w.heap.size < w4.heap.size∧w.heap.size+1 < w4.heap.size):=⟨(Array.getElem?_eq_some_iff.1 (HE3.out.kp List.mem_cons_self)).1,(Array.getElem?_eq_some_iff.1 (HE3.out.kp (List.mem_cons_of_mem _ HM1.out))).1,(Array.getElem?_eq_some_iff.1 (HE3.out.kp (List.mem_cons_of_mem _ HM2.out))).1⟩
  go_wp2_with fail
  generalize (w4.alloc (.cells #[.int .i64 ty,.int .i64 wd,.int .u64 n] 92))=w5 at *
  refine (HB4.out.call fun κ1 hb hz=>kN ee hb).mono ?_
  rintro r w6 ⟨rfl,he⟩
  have HE5:=zh he
  clear he cb4
  obtain⟨va6,vc6,hrow6,hown6⟩:=HE5.out.row8
  have c86:w6.cell? ⟨q.p,8,none⟩=some (.slice va6 x.vals.length vc6):=jK hrow6 8 _ rfl
  clear hrow6 hown6
  have cb5:=Env.cell HE5.out (List.mem_cons_of_mem _ (List.mem_cons_of_mem _ HM1.out)) 0 _ rfl
  have hri:=HE5.out.kp (List.mem_cons_of_mem _ List.mem_cons_self)
  have fi:=jE hri 0
  have ci:=jK hri 0 _ rfl
  have HE6:Hid (Env B q most flags w κ ((w2.heap.size,Obj.cells #[.int .i64 x.vals.length] 3 (0,0))::(w4.heap.size,Obj.cells #[.int .i64 ty,.int .i64 wd,.int .u64 n] 92 (0,0))::[(w.heap.size+1,Obj.cells #[.slice va vals.length vc] 51 (0,0)),(w.heap.size,Obj.cells #[jF q.p] 23 (0,0))]) (({x with s:=s1}:BS).fail ee) (w6.setCell ⟨w2.heap.size,0,none⟩ (.int .i64 x.vals.length))):=by
   have ho:=heap_setCell_same w6 w2.heap.size 0 _ _ (.int .i64 x.vals.length) hri
   refine (yK.tell (o:=.cells #[.int .i64 ga] 3 (0,0)) ⟨⟨by have:=HSZ.out.1;omega,fun z hz e=>?_⟩,HE5.out.mono (fun z hz=>?_)⟩ (zF w6 w2.heap.size 0 _) (by simpa using ho)).2
   ·simp only[List.mem_cons,List.not_mem_nil,or_false] at hz
    have h1:=HSZ.out
    have h2:=HS4.out
    rcases hz with rfl|rfl|rfl<;>dsimp only at e<;>omega
   ·simp only[List.mem_cons,List.not_mem_nil,or_false] at hz⊢
    rcases hz with rfl|rfl|rfl|rfl<;>simp
  have HN1:Hid ((w.heap.size,Obj.cells #[jF q.p] 23 (0,0))∈(((w2.heap.size,Obj.cells #[.int .i64 x.vals.length] 3 (0,0))::(w4.heap.size,Obj.cells #[.int .i64 ty,.int .i64 wd,.int .u64 n] 92 (0,0))::[(w.heap.size+1,Obj.cells #[.slice va vals.length vc] 51 (0,0)),(w.heap.size,Obj.cells #[jF q.p] 23 (0,0))]):List (Nat × Obj))):=List.mem_cons_of_mem _ (List.mem_cons_of_mem _ HM1.out)
  have HN3:Hid ((w4.heap.size,Obj.cells #[.int .i64 ty,.int .i64 wd,.int .u64 n] 92 (0,0))∈(((w2.heap.size,Obj.cells #[.int .i64 x.vals.length] 3 (0,0))::(w4.heap.size,Obj.cells #[.int .i64 ty,.int .i64 wd,.int .u64 n] 92 (0,0))::[(w.heap.size+1,Obj.cells #[.slice va vals.length vc] 51 (0,0)),(w.heap.size,Obj.cells #[jF q.p] 23 (0,0))]):List (Nat × Obj))):=List.mem_cons_of_mem _ List.mem_cons_self
  clear hri
  go_wp2_with fail
  generalize (w6.setCell ⟨w2.heap.size,0,none⟩ (.int .i64 x.vals.length))=w7 at *
  clear c86 cb5 fi ci
  refine jO [7] (zX B q most flags w κ ((w2.heap.size,Obj.cells #[.int .i64 x.vals.length] 3 (0,0))::(w4.heap.size,Obj.cells #[.int .i64 ty,.int .i64 wd,.int .u64 n] 92 (0,0))::[(w.heap.size+1,Obj.cells #[.slice va vals.length vc] 51 (0,0)),(w.heap.size,Obj.cells #[jF q.p] 23 (0,0))]) [({x with s:=s1}:BS).fail ee] ({({x with s:=s1}:BS).fail ee with lists:=zE list x.vals.length x.lists})) (fun _ w w'=>jB w w') ((fun p (_:Nat→Value)=>(fun _ _ _=>True) p)) [[],[0],[0,1],[0,1,2],[0,1,2,3],[],[],[0,1,2,3,4,5,6]] [[(57,5),(58,6)],[(52,0),(57,5),(58,6)],[(52,0),(53,1),(57,5),(58,6)],[(52,0),(53,1),(54,2),(57,5),(58,6)],[(52,0),(53,1),(54,2),(55,3),(57,5),(58,6)],[(52,0),(53,1),(54,2),(55,3),(56,4),(58,6)],[(52,0),(53,1),(54,2),(55,3),(56,4),(57,5)],[(52,0),(53,1),(54,2),(55,3),(56,4),(57,5),(58,6)]] [(52,0),(53,1),(54,2),(55,3),(56,4),(57,5),(58,6),(59,7)]
   [IsP (jF q.p),IsP (jF q.p),IsP (.pointer (some ⟨q.p,3,none⟩)),IsP (.pointer (some ⟨q.p,6,none⟩)),IsP (jF q.l),IsP (.string list),IsP (.int .i64 x.vals.length),IsP (.int .i64 (qK list x.vals.length x.lists))]
   zk (zX.grew) (HE6.out.grew (jB.refl _).drew) zk zk ⟨jC,jC,jC,jC,jC,jC,jC,jC,trivial⟩ rfl ?_ ?_
  ·intro y wr6 hW hF
   simp only[kT,IsP,Nat.reduceAdd,List.length_cons,List.length_nil] at hF hW
   have h0:=hF.1
   have h1:=hF.2.1
   have h2:=hF.2.2.1
   have h3:=hF.2.2.2.1
   have h4:=hF.2.2.2.2.1
   have h5:=hF.2.2.2.2.2.1
   have h6:=hF.2.2.2.2.2.2.1
   have h7:=hF.2.2.2.2.2.2.2.1
   clear hF
   simp only[jA,Act.put,zq1,zq2,zq3,zq4,zq5]
   simp only[h0,h1,h2,h3,h4,h5,h6,h7]
   clear h0 h1 h2 h3 h4 h5 h6 h7
   have HE7:Hid (Env B q most flags w κ ((w2.heap.size,Obj.cells #[.int .i64 x.vals.length] 3 (0,0))::(w4.heap.size,Obj.cells #[.int .i64 ty,.int .i64 wd,.int .u64 n] 92 (0,0))::[(w.heap.size+1,Obj.cells #[.slice va vals.length vc] 51 (0,0)),(w.heap.size,Obj.cells #[jF q.p] 23 (0,0))]) ({({x with s:=s1}:BS).fail ee with lists:=zE list x.vals.length x.lists}) wr6):=hW
   have HLV:Hid ((x.vals++[(ty,wd,n)]).length≤1048577):=by show _≤_;rw[List.length_append];have:=HVS.out;simp;omega
   have HOV:Hid (∀u∈x.vals++[((ty,wd,n):V3)],okV u):=by
    intro u hu
    rcases List.mem_append.1 hu with hu|hu
    ·exact HOL.out u hu
    ·simp at hu;subst hu;exact HOKN.out
   obtain⟨va8,vc8,hrow8,hown8⟩:=HE7.out.row8
   have HR8:=zh hrow8
   have HO8:Hid (jQ wr6 0 (.slice va8 x.vals.length vc8) x.vals):=hown8
   have c8:wr6.cell? ⟨q.p,8,none⟩=some (.slice va8 x.vals.length vc8):=jK hrow8 8 _ rfl
   clear hrow8 hown8
   go_wp2_with fail
   refine jO [8,12] (ApW wr6 (.slice va8 x.vals.length vc8) (fun w'=>Env B q most flags w κ ((w2.heap.size,Obj.cells #[.int .i64 x.vals.length] 3 (0,0))::(w4.heap.size,Obj.cells #[.int .i64 ty,.int .i64 wd,.int .u64 n] 92 (0,0))::[(w.heap.size+1,Obj.cells #[.slice va vals.length vc] 51 (0,0)),(w.heap.size,Obj.cells #[jF q.p] 23 (0,0))]) ({({({x with s:=s1}:BS).fail ee with lists:=zE list x.vals.length x.lists}:BS) with vals:=x.vals++[(ty,wd,n)]}) w')) (fun _ w w'=>jB w w') ((fun p (_:Nat→Value)=>(fun _ _ _=>True) p)) [[],[],[1],[1,2],[1,2,3],[1,2,3,4],[],[6],[1,2,3,4,5,6,7],[0,1,2,3,4,5,6,7,8],[0,1,2,3,4,5,6,7,8,9],[0,1,2,3,4,5,6,7,8,9,10],[0,1,2,3,4,5,6,7,8,9,10,11]] [[(61,1),(62,2),(63,3),(64,4),(65,5),(66,6),(67,7),(68,8)],[(60,0),(66,6),(67,7)],[(60,0),(61,1),(66,6),(67,7)],[(60,0),(61,1),(62,2),(66,6),(67,7)],[(60,0),(61,1),(62,2),(63,3),(66,6),(67,7)],[(60,0),(61,1),(62,2),(63,3),(64,4),(66,6),(67,7)],[(60,0),(61,1),(62,2),(63,3),(64,4),(65,5)],[(60,0),(61,1),(62,2),(63,3),(64,4),(65,5),(66,6)],[(60,0),(61,1),(62,2),(63,3),(64,4),(65,5),(66,6),(67,7)],[(60,0),(61,1),(62,2),(63,3),(64,4),(65,5),(66,6),(67,7),(68,8)],[(60,0),(61,1),(62,2),(63,3),(64,4),(65,5),(66,6),(67,7),(68,8),(69,9)],[(60,0),(61,1),(62,2),(63,3),(64,4),(65,5),(66,6),(67,7),(68,8),(69,9),(70,10)],[(60,0),(61,1),(62,2),(63,3),(64,4),(65,5),(66,6),(67,7),(68,8),(69,9),(70,10),(71,11)]] [(60,0),(61,1),(62,2),(63,3),(64,4),(65,5),(66,6),(67,7),(68,8),(69,9),(70,10),(71,11)]
    [IsP (jF q.p),IsP (jF q.p),IsP (jF q.p),IsP (.pointer (some ⟨q.p,3,none⟩)),IsP (.pointer (some ⟨q.p,8,none⟩)),IsP (.slice va8 x.vals.length vc8),IsP (.agg #[.int .i64 ty,.int .i64 wd,.int .u64 n]),qP 0 (fun v w=>(∃g,v=.slice (some ⟨g,0,none⟩) 1 1)∧ValsAt w v [(ty,wd,n)]),ApF wr6 (.slice va8 x.vals.length vc8) (x.vals++[(ty,wd,n)]),IsP (jF q.p),IsP (.pointer (some ⟨q.p,3,none⟩)),IsP (.pointer (some ⟨q.p,8,none⟩)),fun _ _ _=>True]
    zk (ApW.grew (fun w1 w2 hg h=>Env.grew h hg)) ((jB.refl _).drew) zk zk ⟨jC,jC,jC,jC,jC,jC,jC,qQ (qP.st (fun v w w' hg h=>⟨h.1,h.2.grew hg⟩)),qQ (ApF.st),jC,jC,jC,⟨fun _ _ _ _ _ h=>h,fun _ _ _ _ _ h=>h⟩,trivial⟩ rfl ?_ ?_
   ·intro y w5 hW hF
    simp only[kT,IsP,Nat.reduceAdd,List.length_cons,List.length_nil] at hF hW
    have h0:=hF.1
    have h1:=hF.2.1
    have h2:=hF.2.2.1
    have h3:=hF.2.2.2.1
    have h4:=hF.2.2.2.2.1
    have h5:=hF.2.2.2.2.2.1
    have h6:=hF.2.2.2.2.2.2.1
    have h7:=hF.2.2.2.2.2.2.2.1
    have h8:=hF.2.2.2.2.2.2.2.2.1
    have h9:=hF.2.2.2.2.2.2.2.2.2.1
    have h10:=hF.2.2.2.2.2.2.2.2.2.2.1
    have h11:=hF.2.2.2.2.2.2.2.2.2.2.2.1
    clear hF
    simp only[jA,Act.put,zq1,zq2,zq3,zq4,zq5]
    simp only[h0,h1,h2,h3,h4,h5,h6,h9,h10,h11]
    clear h0 h1 h2 h3 h4 h5 h6 h9 h10 h11
    have HE8:Hid (Env B q most flags w κ ((w2.heap.size,Obj.cells #[.int .i64 x.vals.length] 3 (0,0))::(w4.heap.size,Obj.cells #[.int .i64 ty,.int .i64 wd,.int .u64 n] 92 (0,0))::[(w.heap.size+1,Obj.cells #[.slice va vals.length vc] 51 (0,0)),(w.heap.size,Obj.cells #[jF q.p] 23 (0,0))]) (({x with s:=s1,e:=kF x.e ee,lists:=zE list x.vals.length x.lists,vals:=x.vals++[(ty,wd,n)]}:BS)) w5):=hW
    clear hW h7 h8
    have cb8:=Env.cell HE8.out HN1.out 0 _ rfl
    go_wp2_with fail
    have HT:Hid (∀κ1 wz,Tn κ κ1 w wz→Env B q most flags wz κ1 (((w2.heap.size,Obj.cells #[.int .i64 x.vals.length] 3 (0,0))::(w4.heap.size,Obj.cells #[.int .i64 ty,.int .i64 wd,.int .u64 n] 92 (0,0))::[(w.heap.size+1,Obj.cells #[.slice va vals.length vc] 51 (0,0)),(w.heap.size,Obj.cells #[jF q.p] 23 (0,0))])) (({x with s:=s1,e:=kF x.e ee,lists:=zE list x.vals.length x.lists,vals:=x.vals++[(ty,wd,n)]}:BS)) wz→(({x with s:=s1,e:=kF x.e ee,lists:=zE list x.vals.length x.lists,vals:=x.vals++[(ty,wd,n)]}:BS)).e=0→Calls prog 167 #[.pointer (some ⟨w.heap.size,0,none⟩),.pointer (some ⟨w2.heap.size,0,none⟩),.pointer (some ⟨w.heap.size+1,0,none⟩)] wz fun r w'=>r=.returned (.tuple #[])∧j1 B q most flags κ1 ((({x with s:=s1,e:=kF x.e ee,lists:=zE list x.vals.length x.lists,vals:=x.vals++[(ty,wd,n)]}:BS)).tableEnd most x.vals.length vals) wz w'):=fun κ1 wz ht he he0=>HT1.out _ (x.vals.length) κ1 wz _ _ _ HNG.out he0 (by show _ < (x.vals++[(ty,wd,n)]).length;rw[List.length_append];simp) ht (he.mono (fun z hz=>by simp only[List.mem_cons,List.not_mem_nil,or_false] at hz⊢;rcases hz with rfl | rfl | rfl<;>simp))
    refine (HE8.out.callT fun κ1 hb ht he=>k8 hb _ _ ((({x with s:=s1,e:=kF x.e ee,lists:=zE list x.vals.length x.lists,vals:=x.vals++[(ty,wd,n)]}:BS)).tableEnd most x.vals.length vals) (fun hne=>by unfold BS.tableEnd;rw[if_neg hne]) (fun _=>enters_of func167 zk rfl _ _) (fun he0=>HT.out κ1 _ ht he he0)).mono ?_
    rintro r w9 ⟨rfl,he⟩
    have HF:=zh he
    clear he
    go_wp2
    go_end0
    exact⟨rfl,by rw[HTE.out.trans (if_neg (by simp))];exact HF.out.turn⟩
   refine⟨?_,?_⟩
   ·refine jJ 0 1 ?_
    intro y w5 p hlo hhi hW hD K hK
    have dq:=jK (ApW.old hW hhi (HE7.out.kp HN1.out) (fun e=>zR HO8.out (HE7.out.kp HN1.out) (by decide) e.symm)) 0 _ rfl
    clear hD
    generalize hAA:jA y _ _=AA at hK⊢
    simp only[jA,Act.put,zq1,zq2,zq3,zq4,zq5,IsP] at hAA
    subst hAA
    simp only[zq4,zq5,IsP] at hK
    refine jG ?_
    go_simp
    exact hK _ _ _ rfl (jB.refl _) rfl
   refine⟨?_,?_⟩
   ·refine jJ 0 0 ?_
    intro y w5 p hlo hhi hW hD K hK
    obtain rfl:p=0:=by omega
    have dq:=Env.cell ((HE7.out).grew (show jB wr6 w5 from hW)) HN1.out 0 _ rfl
    clear hD
    generalize hAA:jA y _ _=AA at hK⊢
    simp only[jA,Act.put,zq1,zq2,zq3,zq4,zq5,IsP] at hAA
    subst hAA
    simp only[zq4,zq5,IsP] at hK
    refine jG ?_
    go_simp
    exact hK _ _ _ rfl (jB.refl _) rfl
   refine⟨?_,?_⟩
   ·refine jJ 0 0 ?_
    intro y w5 p hlo hhi hW hD K hK
    simp only[jU,zq4,zq5,IsP] at hD
    have h1:=hD.1
    clear hD
    generalize hAA:jA y _ _=AA at hK⊢
    simp only[jA,Act.put,zq1,zq2,zq3,zq4,zq5,IsP] at hAA
    subst hAA
    simp only[zq4,zq5,IsP] at hK
    simp only[h1] at hK⊢
    clear h1
    refine jG ?_
    go_simp
    exact hK _ _ _ rfl (jB.refl _) rfl
   refine⟨?_,?_⟩
   ·refine jJ 0 0 ?_
    intro y w5 p hlo hhi hW hD K hK
    simp only[jU,zq4,zq5,IsP] at hD
    have h1:=hD.1
    have h2:=hD.2.1
    clear hD
    generalize hAA:jA y _ _=AA at hK⊢
    simp only[jA,Act.put,zq1,zq2,zq3,zq4,zq5,IsP] at hAA
    subst hAA
    simp only[zq4,zq5,IsP] at hK
    simp only[h1,h2] at hK⊢
    clear h1 h2
    refine jG ?_
    go_simp
    exact hK _ _ _ rfl (jB.refl _) rfl
   refine⟨?_,?_⟩
   ·refine jJ 0 0 ?_
    intro y w5 p hlo hhi hW hD K hK
    simp only[jU,zq4,zq5,IsP] at hD
    have h1:=hD.1
    have h2:=hD.2.1
    have h3:=hD.2.2.1
    clear hD
    generalize hAA:jA y _ _=AA at hK⊢
    simp only[jA,Act.put,zq1,zq2,zq3,zq4,zq5,IsP] at hAA
    subst hAA
    simp only[zq4,zq5,IsP] at hK
    simp only[h1,h2,h3] at hK⊢
    clear h1 h2 h3
    refine jG ?_
    go_simp
    exact hK _ _ _ rfl (jB.refl _) rfl
   refine⟨?_,?_⟩
   ·refine jJ 0 0 ?_
    intro y w5 p hlo hhi hW hD K hK
    obtain rfl:p=0:=by omega
    have dd:=jB.cell (show jB wr6 w5 from hW) c8
    simp only[jU,zq4,zq5,IsP] at hD
    have h1:=hD.1
    have h2:=hD.2.1
    have h3:=hD.2.2.1
    have h4:=hD.2.2.2.1
    clear hD
    generalize hAA:jA y _ _=AA at hK⊢
    simp only[jA,Act.put,zq1,zq2,zq3,zq4,zq5,IsP] at hAA
    subst hAA
    simp only[zq4,zq5,IsP] at hK
    simp only[h1,h2,h3,h4] at hK⊢
    clear h1 h2 h3 h4
    refine jG ?_
    go_simp
    exact hK _ _ _ rfl (jB.refl _) rfl
   refine⟨?_,?_⟩
   ·refine jJ 0 0 ?_
    intro y w5 p hlo hhi hW hD K hK
    obtain rfl:p=0:=by omega
    have dv0:=Env.cell (HE7.out.grew (show jB wr6 w5 from hW)) HN3.out 0 _ rfl
    have dv1:=Env.cell (HE7.out.grew (show jB wr6 w5 from hW)) HN3.out 1 _ rfl
    have dv2:=Env.cell (HE7.out.grew (show jB wr6 w5 from hW)) HN3.out 2 _ rfl
    clear hD
    generalize hAA:jA y _ _=AA at hK⊢
    simp only[jA,Act.put,zq1,zq2,zq3,zq4,zq5,IsP] at hAA
    subst hAA
    simp only[zq4,zq5,IsP] at hK
    refine jG ?_
    go_simp
    exact hK _ _ _ rfl (jB.refl _) rfl
   refine⟨?_,?_⟩
   ·refine jJ 0 0 ?_
    intro y w5 p hlo hhi hW hD K hK
    simp only[jU,zq4,zq5,IsP] at hD
    have h6:=hD.1
    clear hD
    generalize hAA:jA y _ _=AA at hK⊢
    simp only[jA,Act.put,zq1,zq2,zq3,zq4,zq5,IsP] at hAA
    subst hAA
    simp only[zq4,zq5,IsP] at hK
    simp only[h6] at hK⊢
    clear h6
    refine jG ?_
    go_simp
    obtain rfl:p=0:=by omega
    exact hK _ _ _ rfl ((jB.refl _).alloc _) (fun _=>⟨⟨_,rfl⟩,q9 w5 (ty,wd,n)⟩)
   refine⟨?_,?_⟩
   ·refine jP 0 rfl ?_
    intro y w5 hW hD K hK
    simp only[jU,zq4,zq5,IsP] at hD
    have h1:=hD.1
    have h2:=hD.2.1
    have h3:=hD.2.2.1
    have h4:=hD.2.2.2.1
    have h5:=hD.2.2.2.2.1
    have h6:=hD.2.2.2.2.2.1
    have h7:=hD.2.2.2.2.2.2.1
    clear hD
    generalize hAA:jA y _ _=AA at hK⊢
    simp only[jA,Act.put,zq1,zq2,zq3,zq4,zq5,IsP] at hAA
    subst hAA
    simp only[zq4,zq5,IsP] at hK
    simp only[h1,h2,h3,h4,h5,h6] at hK⊢
    clear h1 h2 h3 h4 h5 h6
    obtain⟨⟨g7,e7⟩,hv7⟩:=h7 (Nat.le_refl _)
    rw[e7] at hK hv7⊢
    refine jG ?_
    refine eP w5 _ _ rfl (.slice va8 x.vals.length vc8) x.vals rfl (yE HO8.out (show jB wr6 w5 from hW)) _ (ty,wd,n) g7 rfl hv7 rfl (by have:=HVS.out;omega) ?_
    intro v' w' ho hgr hnx
    exact hK _ _ _ rfl trivial (Moved.trans (Moved.of_grew (S:=fun k=>some k=(Value.slice va8 x.vals.length vc8).ownBlock) (show jB wr6 w5 from hW)) (Moved.of_grown hgr) (fun _ _ e=>e)) ⟨ho,fun k hk=>(hnx k hk).imp id (fun e=>Nat.le_trans (jB.size (show jB wr6 w5 from hW)) e)⟩
   refine⟨?_,?_⟩
   ·refine jJ 1 1 ?_
    intro y w5 p hlo hhi hW hD K hK
    simp only[jU,zq4,zq5,IsP] at hD
    have h0:=hD.1
    have h1:=hD.2.1
    have h2:=hD.2.2.1
    have h3:=hD.2.2.2.1
    have h4:=hD.2.2.2.2.1
    have h5:=hD.2.2.2.2.2.1
    have h6:=hD.2.2.2.2.2.2.1
    have h7:=hD.2.2.2.2.2.2.2.1
    have h8:=hD.2.2.2.2.2.2.2.2.1
    clear hD
    generalize hAA:jA y _ _=AA at hK⊢
    simp only[jA,Act.put,zq1,zq2,zq3,zq4,zq5,IsP] at hAA
    subst hAA
    simp only[zq4,zq5,IsP] at hK
    simp only[h0,h1,h2,h3,h4,h5,h6] at hK⊢
    clear h0 h1 h2 h3 h4 h5 h6
    refine jG ?_
    go_simp
    exact hK _ _ _ rfl (jB.refl _) rfl
   refine⟨?_,?_⟩
   ·refine jJ 1 1 ?_
    intro y w5 p hlo hhi hW hD K hK
    simp only[jU,zq4,zq5,IsP] at hD
    have h0:=hD.1
    have h1:=hD.2.1
    have h2:=hD.2.2.1
    have h3:=hD.2.2.2.1
    have h4:=hD.2.2.2.2.1
    have h5:=hD.2.2.2.2.2.1
    have h6:=hD.2.2.2.2.2.2.1
    have h7:=hD.2.2.2.2.2.2.2.1
    have h8:=hD.2.2.2.2.2.2.2.2.1
    have h9:=hD.2.2.2.2.2.2.2.2.2.1
    clear hD
    generalize hAA:jA y _ _=AA at hK⊢
    simp only[jA,Act.put,zq1,zq2,zq3,zq4,zq5,IsP] at hAA
    subst hAA
    simp only[zq4,zq5,IsP] at hK
    simp only[h0,h1,h2,h3,h4,h5,h6,h9] at hK⊢
    clear h0 h1 h2 h3 h4 h5 h6 h9
    refine jG ?_
    go_simp
    exact hK _ _ _ rfl (jB.refl _) rfl
   refine⟨?_,?_⟩
   ·refine jJ 1 1 ?_
    intro y w5 p hlo hhi hW hD K hK
    simp only[jU,zq4,zq5,IsP] at hD
    have h0:=hD.1
    have h1:=hD.2.1
    have h2:=hD.2.2.1
    have h3:=hD.2.2.2.1
    have h4:=hD.2.2.2.2.1
    have h5:=hD.2.2.2.2.2.1
    have h6:=hD.2.2.2.2.2.2.1
    have h7:=hD.2.2.2.2.2.2.2.1
    have h8:=hD.2.2.2.2.2.2.2.2.1
    have h9:=hD.2.2.2.2.2.2.2.2.2.1
    have h10:=hD.2.2.2.2.2.2.2.2.2.2.1
    clear hD
    generalize hAA:jA y _ _=AA at hK⊢
    simp only[jA,Act.put,zq1,zq2,zq3,zq4,zq5,IsP] at hAA
    subst hAA
    simp only[zq4,zq5,IsP] at hK
    simp only[h0,h1,h2,h3,h4,h5,h6,h9,h10] at hK⊢
    clear h0 h1 h2 h3 h4 h5 h6 h9 h10
    refine jG ?_
    go_simp
    exact hK _ _ _ rfl (jB.refl _) rfl
   refine⟨?_,?_⟩
   ·refine jP 1 rfl ?_
    intro y w5 hW hD K hK
    have hrp:w5.heap[q.p]? = some (ZO q flags (.slice va8 x.vals.length vc8) ({({x with s:=s1}:BS).fail ee with lists:=zE list x.vals.length x.lists}).e):=Moved.heap (show Moved _ wr6 w5 from hW) HR8.out (fun e=>zR HO8.out HR8.out (by decide) e.symm)
    have dd:=jK hrp 8 _ rfl
    have ff:=jE hrp 8
    simp only[jU,zq4,zq5,IsP] at hD
    have h0:=hD.1
    have h1:=hD.2.1
    have h2:=hD.2.2.1
    have h3:=hD.2.2.2.1
    have h4:=hD.2.2.2.2.1
    have h5:=hD.2.2.2.2.2.1
    have h6:=hD.2.2.2.2.2.2.1
    have h7:=hD.2.2.2.2.2.2.2.1
    have h8:=hD.2.2.2.2.2.2.2.2.1
    have h9:=hD.2.2.2.2.2.2.2.2.2.1
    have h10:=hD.2.2.2.2.2.2.2.2.2.2.1
    have h11:=hD.2.2.2.2.2.2.2.2.2.2.2.1
    clear hD
    generalize hAA:jA y _ _=AA at hK⊢
    simp only[jA,Act.put,zq1,zq2,zq3,zq4,zq5,IsP] at hAA
    subst hAA
    simp only[zq4,zq5,IsP] at hK
    simp only[h0,h1,h2,h3,h4,h5,h6,h9,h10,h11] at hK⊢
    clear h0 h1 h2 h3 h4 h5 h6 h9 h10 h11
    have hq:jQ w5 0 _ _∧zJ wr6 _ _:=h8
    obtain⟨a8,c8',e8,_⟩:=j8 hq.1
    replace e8:y 8=.slice a8 (x.vals.length+1) c8':=by rw[e8];simp
    rw[e8] at hK hq⊢
    clear e8 h8
    refine jG ?_
    go_simp
    exact hK _ undef _ rfl trivial (HE7.out.setVals HR8.out (show Moved _ wr6 w5 from hW) hq.1 hq.2 HLV.out HOV.out) trivial
   trivial
  refine⟨?_,?_⟩
  ·refine jJ 0 0 ?_
   intro y wr6 p hlo hhi hW hD K hK
   have dq:=Env.cell hW HN1.out 0 _ rfl
   clear hD
   generalize hAA:jA y _ _=AA at hK⊢
   simp only[jA,Act.put,zq1,zq2,zq3,zq4,zq5,IsP] at hAA
   subst hAA
   simp only[zq4,zq5,IsP] at hK
   refine jG ?_
   go_simp
   exact hK _ _ _ rfl (jB.refl _) rfl
  refine⟨?_,?_⟩
  ·refine jJ 0 0 ?_
   intro y wr6 p hlo hhi hW hD K hK
   simp only[jU,zq4,zq5,IsP] at hD
   have h0:=hD.1
   clear hD
   generalize hAA:jA y _ _=AA at hK⊢
   simp only[jA,Act.put,zq1,zq2,zq3,zq4,zq5,IsP] at hAA
   subst hAA
   simp only[zq4,zq5,IsP] at hK
   simp only[h0] at hK⊢
   clear h0
   refine jG ?_
   go_simp
   exact hK _ _ _ rfl (jB.refl _) rfl
  refine⟨?_,?_⟩
  ·refine jJ 0 0 ?_
   intro y wr6 p hlo hhi hW hD K hK
   simp only[jU,zq4,zq5,IsP] at hD
   have h0:=hD.1
   have h1:=hD.2.1
   clear hD
   generalize hAA:jA y _ _=AA at hK⊢
   simp only[jA,Act.put,zq1,zq2,zq3,zq4,zq5,IsP] at hAA
   subst hAA
   simp only[zq4,zq5,IsP] at hK
   simp only[h0,h1] at hK⊢
   clear h0 h1
   refine jG ?_
   go_simp
   exact hK _ _ _ rfl (jB.refl _) rfl
  refine⟨?_,?_⟩
  ·refine jJ 0 0 ?_
   intro y wr6 p hlo hhi hW hD K hK
   simp only[jU,zq4,zq5,IsP] at hD
   have h0:=hD.1
   have h1:=hD.2.1
   have h2:=hD.2.2.1
   clear hD
   generalize hAA:jA y _ _=AA at hK⊢
   simp only[jA,Act.put,zq1,zq2,zq3,zq4,zq5,IsP] at hAA
   subst hAA
   simp only[zq4,zq5,IsP] at hK
   simp only[h0,h1,h2] at hK⊢
   clear h0 h1 h2
   refine jG ?_
   go_simp
   exact hK _ _ _ rfl (jB.refl _) rfl
  refine⟨?_,?_⟩
  ·refine jJ 0 0 ?_
   intro y wr6 p hlo hhi hW hD K hK
   have dd:=Env.at6 hW
   simp only[jU,zq4,zq5,IsP] at hD
   have h0:=hD.1
   have h1:=hD.2.1
   have h2:=hD.2.2.1
   have h3:=hD.2.2.2.1
   clear hD
   generalize hAA:jA y _ _=AA at hK⊢
   simp only[jA,Act.put,zq1,zq2,zq3,zq4,zq5,IsP] at hAA
   subst hAA
   simp only[zq4,zq5,IsP] at hK
   simp only[h0,h1,h2,h3] at hK⊢
   clear h0 h1 h2 h3
   refine jG ?_
   go_simp
   exact hK _ _ _ rfl (jB.refl _) rfl
  refine⟨?_,?_⟩
  ·refine jJ 0 0 ?_
   intro y wr6 p hlo hhi hW hD K hK
   clear hD
   generalize hAA:jA y _ _=AA at hK⊢
   simp only[jA,Act.put,zq1,zq2,zq3,zq4,zq5,IsP] at hAA
   subst hAA
   simp only[zq4,zq5,IsP] at hK
   refine jG ?_
   go_simp
   exact hK _ _ _ rfl (jB.refl _) rfl
  refine⟨?_,?_⟩
  ·refine jJ 0 0 ?_
   intro y wr6 p hlo hhi hW hD K hK
   have di:=Env.cell hW List.mem_cons_self 0 _ rfl
   clear hD
   generalize hAA:jA y _ _=AA at hK⊢
   simp only[jA,Act.put,zq1,zq2,zq3,zq4,zq5,IsP] at hAA
   subst hAA
   simp only[zq4,zq5,IsP] at hK
   refine jG ?_
   go_simp
   exact hK _ _ _ rfl (jB.refl _) rfl
  refine⟨?_,?_⟩
  ·refine jP 0 rfl ?_
   intro y wr6 hW hD K hK
   simp only[jU,zq4,zq5,IsP] at hD
   have h0:=hD.1
   have h1:=hD.2.1
   have h2:=hD.2.2.1
   have h3:=hD.2.2.2.1
   have h4:=hD.2.2.2.2.1
   have h5:=hD.2.2.2.2.2.1
   have h6:=hD.2.2.2.2.2.2.1
   clear hD
   generalize hAA:jA y _ _=AA at hK⊢
   simp only[jA,Act.put,zq1,zq2,zq3,zq4,zq5,IsP] at hAA
   subst hAA
   simp only[zq4,zq5,IsP] at hK
   simp only[h0,h1,h2,h3,h4,h5,h6] at hK⊢
   clear h0 h1 h2 h3 h4 h5 h6
   refine jG ?_
   go_simp
   refine (Env.listsPut (x:=({x with s:=s1}:BS).fail ee) list (x.vals.length:Int) HLS.out hW).mono ?_
   rintro r w3 ⟨rfl,he⟩
   exact hK _ _ _ rfl trivial he rfl
  trivial
 | true=>
  cases ho:onF flags 4 with
  | false=>
   have HO:=zh ho
   have HTE2:Hid (x.table most (onF flags 4) list keys vals=({x with s:=s1,e:=kF x.e ee,lists:=zE list x.vals.length x.lists,vals:=x.vals++[(ty,wd,n)]}:BS).tableEnd most x.vals.length vals):=by have h:=HTE.out;show _=_;rw[ho] at h⊢;simpa using h
   clear ho
   go_wp2_with fail
   generalize (w2.alloc (.cells #[.int .i64 ga] 3))=w3 at *
   refine (HB1.out.onE 4).mono ?_
   rw[HO.out]
   rintro r w9 ⟨rfl,hw9⟩
   obtain rfl:w3=w9:=hw9.symm
   have c0:=HB1.out.at0
   go_wp2_with fail
   skip
   refine (HMK.out _ _ HB1.out).mono ?_
   rintro r w4 ⟨rfl,hA⟩
   have HE3:=zh (hA _ HB1.out)
   rw[show zM ((ty,wd,n),ee)=.tuple #[.agg #[.int .i64 ty,.int .i64 wd,.int .u64 n],.int .i64 ee] from rfl]
   clear hA c0 cb1 cl1
   have HB4:=zh (HE3.out.add (.cells #[.int .i64 ty,.int .i64 wd,.int .u64 n] 92))
   have cb4:=Env.cell HB4.out (List.mem_cons_of_mem _ (List.mem_cons_of_mem _ HM1.out)) 0 _ rfl
   have HS4:Hid (w2.heap.size < w4.heap.size∧w.heap.size < w4.heap.size∧w.heap.size+1 < w4.heap.size):=⟨(Array.getElem?_eq_some_iff.1 (HE3.out.kp List.mem_cons_self)).1,(Array.getElem?_eq_some_iff.1 (HE3.out.kp (List.mem_cons_of_mem _ HM1.out))).1,(Array.getElem?_eq_some_iff.1 (HE3.out.kp (List.mem_cons_of_mem _ HM2.out))).1⟩
   go_wp2_with fail
   generalize (w4.alloc (.cells #[.int .i64 ty,.int .i64 wd,.int .u64 n] 92))=w5 at *
   refine (HB4.out.call fun κ1 hb hz=>kN ee hb).mono ?_
   rintro r w6 ⟨rfl,he⟩
   have HE5:=zh he
   clear he cb4
   obtain⟨va6,vc6,hrow6,hown6⟩:=HE5.out.row8
   have c86:w6.cell? ⟨q.p,8,none⟩=some (.slice va6 x.vals.length vc6):=jK hrow6 8 _ rfl
   clear hrow6 hown6
   have cb5:=Env.cell HE5.out (List.mem_cons_of_mem _ (List.mem_cons_of_mem _ HM1.out)) 0 _ rfl
   have hri:=HE5.out.kp (List.mem_cons_of_mem _ List.mem_cons_self)
   have fi:=jE hri 0
   have ci:=jK hri 0 _ rfl
   have HE6:Hid (Env B q most flags w κ ((w2.heap.size,Obj.cells #[.int .i64 x.vals.length] 3 (0,0))::(w4.heap.size,Obj.cells #[.int .i64 ty,.int .i64 wd,.int .u64 n] 92 (0,0))::[(w.heap.size+1,Obj.cells #[.slice va vals.length vc] 51 (0,0)),(w.heap.size,Obj.cells #[jF q.p] 23 (0,0))]) (({x with s:=s1}:BS).fail ee) (w6.setCell ⟨w2.heap.size,0,none⟩ (.int .i64 x.vals.length))):=by
    have ho:=heap_setCell_same w6 w2.heap.size 0 _ _ (.int .i64 x.vals.length) hri
    refine (yK.tell (o:=.cells #[.int .i64 ga] 3 (0,0)) ⟨⟨by have:=HSZ.out.1;omega,fun z hz e=>?_⟩,HE5.out.mono (fun z hz=>?_)⟩ (zF w6 w2.heap.size 0 _) (by simpa using ho)).2
    ·simp only[List.mem_cons,List.not_mem_nil,or_false] at hz
     have h1:=HSZ.out
     have h2:=HS4.out
     rcases hz with rfl|rfl|rfl<;>dsimp only at e<;>omega
    ·simp only[List.mem_cons,List.not_mem_nil,or_false] at hz⊢
     rcases hz with rfl|rfl|rfl|rfl<;>simp
   have HN1:Hid ((w.heap.size,Obj.cells #[jF q.p] 23 (0,0))∈(((w2.heap.size,Obj.cells #[.int .i64 x.vals.length] 3 (0,0))::(w4.heap.size,Obj.cells #[.int .i64 ty,.int .i64 wd,.int .u64 n] 92 (0,0))::[(w.heap.size+1,Obj.cells #[.slice va vals.length vc] 51 (0,0)),(w.heap.size,Obj.cells #[jF q.p] 23 (0,0))]):List (Nat × Obj))):=List.mem_cons_of_mem _ (List.mem_cons_of_mem _ HM1.out)
   have HN3:Hid ((w4.heap.size,Obj.cells #[.int .i64 ty,.int .i64 wd,.int .u64 n] 92 (0,0))∈(((w2.heap.size,Obj.cells #[.int .i64 x.vals.length] 3 (0,0))::(w4.heap.size,Obj.cells #[.int .i64 ty,.int .i64 wd,.int .u64 n] 92 (0,0))::[(w.heap.size+1,Obj.cells #[.slice va vals.length vc] 51 (0,0)),(w.heap.size,Obj.cells #[jF q.p] 23 (0,0))]):List (Nat × Obj))):=List.mem_cons_of_mem _ List.mem_cons_self
   clear hri
   go_wp2_with fail
   generalize (w6.setCell ⟨w2.heap.size,0,none⟩ (.int .i64 x.vals.length))=w7 at *
   clear c86 cb5 fi ci
   refine jO [7] (zX B q most flags w κ ((w2.heap.size,Obj.cells #[.int .i64 x.vals.length] 3 (0,0))::(w4.heap.size,Obj.cells #[.int .i64 ty,.int .i64 wd,.int .u64 n] 92 (0,0))::[(w.heap.size+1,Obj.cells #[.slice va vals.length vc] 51 (0,0)),(w.heap.size,Obj.cells #[jF q.p] 23 (0,0))]) [({x with s:=s1}:BS).fail ee] ({({x with s:=s1}:BS).fail ee with lists:=zE list x.vals.length x.lists})) (fun _ w w'=>jB w w') ((fun p (_:Nat→Value)=>(fun _ _ _=>True) p)) [[],[0],[0,1],[0,1,2],[0,1,2,3],[],[],[0,1,2,3,4,5,6]] [[(57,5),(58,6)],[(52,0),(57,5),(58,6)],[(52,0),(53,1),(57,5),(58,6)],[(52,0),(53,1),(54,2),(57,5),(58,6)],[(52,0),(53,1),(54,2),(55,3),(57,5),(58,6)],[(52,0),(53,1),(54,2),(55,3),(56,4),(58,6)],[(52,0),(53,1),(54,2),(55,3),(56,4),(57,5)],[(52,0),(53,1),(54,2),(55,3),(56,4),(57,5),(58,6)]] [(52,0),(53,1),(54,2),(55,3),(56,4),(57,5),(58,6),(59,7)]
    [IsP (jF q.p),IsP (jF q.p),IsP (.pointer (some ⟨q.p,3,none⟩)),IsP (.pointer (some ⟨q.p,6,none⟩)),IsP (jF q.l),IsP (.string list),IsP (.int .i64 x.vals.length),IsP (.int .i64 (qK list x.vals.length x.lists))]
    zk (zX.grew) (HE6.out.grew (jB.refl _).drew) zk zk ⟨jC,jC,jC,jC,jC,jC,jC,jC,trivial⟩ rfl ?_ ?_
   ·intro y wr6 hW hF
    simp only[kT,IsP,Nat.reduceAdd,List.length_cons,List.length_nil] at hF hW
    have h0:=hF.1
    have h1:=hF.2.1
    have h2:=hF.2.2.1
    have h3:=hF.2.2.2.1
    have h4:=hF.2.2.2.2.1
    have h5:=hF.2.2.2.2.2.1
    have h6:=hF.2.2.2.2.2.2.1
    have h7:=hF.2.2.2.2.2.2.2.1
    clear hF
    simp only[jA,Act.put,zq1,zq2,zq3,zq4,zq5]
    simp only[h0,h1,h2,h3,h4,h5,h6,h7]
    clear h0 h1 h2 h3 h4 h5 h6 h7
    have HE7:Hid (Env B q most flags w κ ((w2.heap.size,Obj.cells #[.int .i64 x.vals.length] 3 (0,0))::(w4.heap.size,Obj.cells #[.int .i64 ty,.int .i64 wd,.int .u64 n] 92 (0,0))::[(w.heap.size+1,Obj.cells #[.slice va vals.length vc] 51 (0,0)),(w.heap.size,Obj.cells #[jF q.p] 23 (0,0))]) ({({x with s:=s1}:BS).fail ee with lists:=zE list x.vals.length x.lists}) wr6):=hW
    have HLV:Hid ((x.vals++[(ty,wd,n)]).length≤1048577):=by show _≤_;rw[List.length_append];have:=HVS.out;simp;omega
    have HOV:Hid (∀u∈x.vals++[((ty,wd,n):V3)],okV u):=by
     intro u hu
     rcases List.mem_append.1 hu with hu|hu
     ·exact HOL.out u hu
     ·simp at hu;subst hu;exact HOKN.out
    obtain⟨va8,vc8,hrow8,hown8⟩:=HE7.out.row8
    have HR8:=zh hrow8
    have HO8:Hid (jQ wr6 0 (.slice va8 x.vals.length vc8) x.vals):=hown8
    have c8:wr6.cell? ⟨q.p,8,none⟩=some (.slice va8 x.vals.length vc8):=jK hrow8 8 _ rfl
    clear hrow8 hown8
    go_wp2_with fail
    refine jO [8,12] (ApW wr6 (.slice va8 x.vals.length vc8) (fun w'=>Env B q most flags w κ ((w2.heap.size,Obj.cells #[.int .i64 x.vals.length] 3 (0,0))::(w4.heap.size,Obj.cells #[.int .i64 ty,.int .i64 wd,.int .u64 n] 92 (0,0))::[(w.heap.size+1,Obj.cells #[.slice va vals.length vc] 51 (0,0)),(w.heap.size,Obj.cells #[jF q.p] 23 (0,0))]) ({({({x with s:=s1}:BS).fail ee with lists:=zE list x.vals.length x.lists}:BS) with vals:=x.vals++[(ty,wd,n)]}) w')) (fun _ w w'=>jB w w') ((fun p (_:Nat→Value)=>(fun _ _ _=>True) p)) [[],[],[1],[1,2],[1,2,3],[1,2,3,4],[],[6],[1,2,3,4,5,6,7],[0,1,2,3,4,5,6,7,8],[0,1,2,3,4,5,6,7,8,9],[0,1,2,3,4,5,6,7,8,9,10],[0,1,2,3,4,5,6,7,8,9,10,11]] [[(61,1),(62,2),(63,3),(64,4),(65,5),(66,6),(67,7),(68,8)],[(60,0),(66,6),(67,7)],[(60,0),(61,1),(66,6),(67,7)],[(60,0),(61,1),(62,2),(66,6),(67,7)],[(60,0),(61,1),(62,2),(63,3),(66,6),(67,7)],[(60,0),(61,1),(62,2),(63,3),(64,4),(66,6),(67,7)],[(60,0),(61,1),(62,2),(63,3),(64,4),(65,5)],[(60,0),(61,1),(62,2),(63,3),(64,4),(65,5),(66,6)],[(60,0),(61,1),(62,2),(63,3),(64,4),(65,5),(66,6),(67,7)],[(60,0),(61,1),(62,2),(63,3),(64,4),(65,5),(66,6),(67,7),(68,8)],[(60,0),(61,1),(62,2),(63,3),(64,4),(65,5),(66,6),(67,7),(68,8),(69,9)],[(60,0),(61,1),(62,2),(63,3),(64,4),(65,5),(66,6),(67,7),(68,8),(69,9),(70,10)],[(60,0),(61,1),(62,2),(63,3),(64,4),(65,5),(66,6),(67,7),(68,8),(69,9),(70,10),(71,11)]] [(60,0),(61,1),(62,2),(63,3),(64,4),(65,5),(66,6),(67,7),(68,8),(69,9),(70,10),(71,11)]
     [IsP (jF q.p),IsP (jF q.p),IsP (jF q.p),IsP (.pointer (some ⟨q.p,3,none⟩)),IsP (.pointer (some ⟨q.p,8,none⟩)),IsP (.slice va8 x.vals.length vc8),IsP (.agg #[.int .i64 ty,.int .i64 wd,.int .u64 n]),qP 0 (fun v w=>(∃g,v=.slice (some ⟨g,0,none⟩) 1 1)∧ValsAt w v [(ty,wd,n)]),ApF wr6 (.slice va8 x.vals.length vc8) (x.vals++[(ty,wd,n)]),IsP (jF q.p),IsP (.pointer (some ⟨q.p,3,none⟩)),IsP (.pointer (some ⟨q.p,8,none⟩)),fun _ _ _=>True]
     zk (ApW.grew (fun w1 w2 hg h=>Env.grew h hg)) ((jB.refl _).drew) zk zk ⟨jC,jC,jC,jC,jC,jC,jC,qQ (qP.st (fun v w w' hg h=>⟨h.1,h.2.grew hg⟩)),qQ (ApF.st),jC,jC,jC,⟨fun _ _ _ _ _ h=>h,fun _ _ _ _ _ h=>h⟩,trivial⟩ rfl ?_ ?_
    ·intro y w5 hW hF
     simp only[kT,IsP,Nat.reduceAdd,List.length_cons,List.length_nil] at hF hW
     have h0:=hF.1
     have h1:=hF.2.1
     have h2:=hF.2.2.1
     have h3:=hF.2.2.2.1
     have h4:=hF.2.2.2.2.1
     have h5:=hF.2.2.2.2.2.1
     have h6:=hF.2.2.2.2.2.2.1
     have h7:=hF.2.2.2.2.2.2.2.1
     have h8:=hF.2.2.2.2.2.2.2.2.1
     have h9:=hF.2.2.2.2.2.2.2.2.2.1
     have h10:=hF.2.2.2.2.2.2.2.2.2.2.1
     have h11:=hF.2.2.2.2.2.2.2.2.2.2.2.1
     clear hF
     simp only[jA,Act.put,zq1,zq2,zq3,zq4,zq5]
     simp only[h0,h1,h2,h3,h4,h5,h6,h9,h10,h11]
     clear h0 h1 h2 h3 h4 h5 h6 h9 h10 h11
     have HE8:Hid (Env B q most flags w κ ((w2.heap.size,Obj.cells #[.int .i64 x.vals.length] 3 (0,0))::(w4.heap.size,Obj.cells #[.int .i64 ty,.int .i64 wd,.int .u64 n] 92 (0,0))::[(w.heap.size+1,Obj.cells #[.slice va vals.length vc] 51 (0,0)),(w.heap.size,Obj.cells #[jF q.p] 23 (0,0))]) (({x with s:=s1,e:=kF x.e ee,lists:=zE list x.vals.length x.lists,vals:=x.vals++[(ty,wd,n)]}:BS)) w5):=hW
     clear hW h7 h8
     have cb8:=Env.cell HE8.out HN1.out 0 _ rfl
     go_wp2_with fail
     have HT:Hid (∀κ1 wz,Tn κ κ1 w wz→Env B q most flags wz κ1 (((w2.heap.size,Obj.cells #[.int .i64 x.vals.length] 3 (0,0))::(w4.heap.size,Obj.cells #[.int .i64 ty,.int .i64 wd,.int .u64 n] 92 (0,0))::[(w.heap.size+1,Obj.cells #[.slice va vals.length vc] 51 (0,0)),(w.heap.size,Obj.cells #[jF q.p] 23 (0,0))])) (({x with s:=s1,e:=kF x.e ee,lists:=zE list x.vals.length x.lists,vals:=x.vals++[(ty,wd,n)]}:BS)) wz→(({x with s:=s1,e:=kF x.e ee,lists:=zE list x.vals.length x.lists,vals:=x.vals++[(ty,wd,n)]}:BS)).e=0→Calls prog 167 #[.pointer (some ⟨w.heap.size,0,none⟩),.pointer (some ⟨w2.heap.size,0,none⟩),.pointer (some ⟨w.heap.size+1,0,none⟩)] wz fun r w'=>r=.returned (.tuple #[])∧j1 B q most flags κ1 ((({x with s:=s1,e:=kF x.e ee,lists:=zE list x.vals.length x.lists,vals:=x.vals++[(ty,wd,n)]}:BS)).tableEnd most x.vals.length vals) wz w'):=fun κ1 wz ht he he0=>HT1.out _ (x.vals.length) κ1 wz _ _ _ HNG.out he0 (by show _ < (x.vals++[(ty,wd,n)]).length;rw[List.length_append];simp) ht (he.mono (fun z hz=>by simp only[List.mem_cons,List.not_mem_nil,or_false] at hz⊢;rcases hz with rfl | rfl | rfl<;>simp))
     refine (HE8.out.callT fun κ1 hb ht he=>k8 hb _ _ ((({x with s:=s1,e:=kF x.e ee,lists:=zE list x.vals.length x.lists,vals:=x.vals++[(ty,wd,n)]}:BS)).tableEnd most x.vals.length vals) (fun hne=>by unfold BS.tableEnd;rw[if_neg hne]) (fun _=>enters_of func167 zk rfl _ _) (fun he0=>HT.out κ1 _ ht he he0)).mono ?_
     rintro r w9 ⟨rfl,he⟩
     have HF:=zh he
     clear he
     go_wp2
     go_end0
     exact⟨rfl,by rw[HTE2.out];exact HF.out.turn⟩
    refine⟨?_,?_⟩
    ·refine jJ 0 1 ?_
     intro y w5 p hlo hhi hW hD K hK
     have dq:=jK (ApW.old hW hhi (HE7.out.kp HN1.out) (fun e=>zR HO8.out (HE7.out.kp HN1.out) (by decide) e.symm)) 0 _ rfl
     clear hD
     generalize hAA:jA y _ _=AA at hK⊢
     simp only[jA,Act.put,zq1,zq2,zq3,zq4,zq5,IsP] at hAA
     subst hAA
     simp only[zq4,zq5,IsP] at hK
     refine jG ?_
     go_simp
     exact hK _ _ _ rfl (jB.refl _) rfl
    refine⟨?_,?_⟩
    ·refine jJ 0 0 ?_
     intro y w5 p hlo hhi hW hD K hK
     obtain rfl:p=0:=by omega
     have dq:=Env.cell ((HE7.out).grew (show jB wr6 w5 from hW)) HN1.out 0 _ rfl
     clear hD
     generalize hAA:jA y _ _=AA at hK⊢
     simp only[jA,Act.put,zq1,zq2,zq3,zq4,zq5,IsP] at hAA
     subst hAA
     simp only[zq4,zq5,IsP] at hK
     refine jG ?_
     go_simp
     exact hK _ _ _ rfl (jB.refl _) rfl
    refine⟨?_,?_⟩
    ·refine jJ 0 0 ?_
     intro y w5 p hlo hhi hW hD K hK
     simp only[jU,zq4,zq5,IsP] at hD
     have h1:=hD.1
     clear hD
     generalize hAA:jA y _ _=AA at hK⊢
     simp only[jA,Act.put,zq1,zq2,zq3,zq4,zq5,IsP] at hAA
     subst hAA
     simp only[zq4,zq5,IsP] at hK
     simp only[h1] at hK⊢
     clear h1
     refine jG ?_
     go_simp
     exact hK _ _ _ rfl (jB.refl _) rfl
    refine⟨?_,?_⟩
    ·refine jJ 0 0 ?_
     intro y w5 p hlo hhi hW hD K hK
     simp only[jU,zq4,zq5,IsP] at hD
     have h1:=hD.1
     have h2:=hD.2.1
     clear hD
     generalize hAA:jA y _ _=AA at hK⊢
     simp only[jA,Act.put,zq1,zq2,zq3,zq4,zq5,IsP] at hAA
     subst hAA
     simp only[zq4,zq5,IsP] at hK
     simp only[h1,h2] at hK⊢
     clear h1 h2
     refine jG ?_
     go_simp
     exact hK _ _ _ rfl (jB.refl _) rfl
    refine⟨?_,?_⟩
    ·refine jJ 0 0 ?_
     intro y w5 p hlo hhi hW hD K hK
     simp only[jU,zq4,zq5,IsP] at hD
     have h1:=hD.1
     have h2:=hD.2.1
     have h3:=hD.2.2.1
     clear hD
     generalize hAA:jA y _ _=AA at hK⊢
     simp only[jA,Act.put,zq1,zq2,zq3,zq4,zq5,IsP] at hAA
     subst hAA
     simp only[zq4,zq5,IsP] at hK
     simp only[h1,h2,h3] at hK⊢
     clear h1 h2 h3
     refine jG ?_
     go_simp
     exact hK _ _ _ rfl (jB.refl _) rfl
    refine⟨?_,?_⟩
    ·refine jJ 0 0 ?_
     intro y w5 p hlo hhi hW hD K hK
     obtain rfl:p=0:=by omega
     have dd:=jB.cell (show jB wr6 w5 from hW) c8
     simp only[jU,zq4,zq5,IsP] at hD
     have h1:=hD.1
     have h2:=hD.2.1
     have h3:=hD.2.2.1
     have h4:=hD.2.2.2.1
     clear hD
     generalize hAA:jA y _ _=AA at hK⊢
     simp only[jA,Act.put,zq1,zq2,zq3,zq4,zq5,IsP] at hAA
     subst hAA
     simp only[zq4,zq5,IsP] at hK
     simp only[h1,h2,h3,h4] at hK⊢
     clear h1 h2 h3 h4
     refine jG ?_
     go_simp
     exact hK _ _ _ rfl (jB.refl _) rfl
    refine⟨?_,?_⟩
    ·refine jJ 0 0 ?_
     intro y w5 p hlo hhi hW hD K hK
     obtain rfl:p=0:=by omega
     have dv0:=Env.cell (HE7.out.grew (show jB wr6 w5 from hW)) HN3.out 0 _ rfl
     have dv1:=Env.cell (HE7.out.grew (show jB wr6 w5 from hW)) HN3.out 1 _ rfl
     have dv2:=Env.cell (HE7.out.grew (show jB wr6 w5 from hW)) HN3.out 2 _ rfl
     clear hD
     generalize hAA:jA y _ _=AA at hK⊢
     simp only[jA,Act.put,zq1,zq2,zq3,zq4,zq5,IsP] at hAA
     subst hAA
     simp only[zq4,zq5,IsP] at hK
     refine jG ?_
     go_simp
     exact hK _ _ _ rfl (jB.refl _) rfl
    refine⟨?_,?_⟩
    ·refine jJ 0 0 ?_
     intro y w5 p hlo hhi hW hD K hK
     simp only[jU,zq4,zq5,IsP] at hD
     have h6:=hD.1
     clear hD
     generalize hAA:jA y _ _=AA at hK⊢
     simp only[jA,Act.put,zq1,zq2,zq3,zq4,zq5,IsP] at hAA
     subst hAA
     simp only[zq4,zq5,IsP] at hK
     simp only[h6] at hK⊢
     clear h6
     refine jG ?_
     go_simp
     obtain rfl:p=0:=by omega
     exact hK _ _ _ rfl ((jB.refl _).alloc _) (fun _=>⟨⟨_,rfl⟩,q9 w5 (ty,wd,n)⟩)
    refine⟨?_,?_⟩
    ·refine jP 0 rfl ?_
     intro y w5 hW hD K hK
     simp only[jU,zq4,zq5,IsP] at hD
     have h1:=hD.1
     have h2:=hD.2.1
     have h3:=hD.2.2.1
     have h4:=hD.2.2.2.1
     have h5:=hD.2.2.2.2.1
     have h6:=hD.2.2.2.2.2.1
     have h7:=hD.2.2.2.2.2.2.1
     clear hD
     generalize hAA:jA y _ _=AA at hK⊢
     simp only[jA,Act.put,zq1,zq2,zq3,zq4,zq5,IsP] at hAA
     subst hAA
     simp only[zq4,zq5,IsP] at hK
     simp only[h1,h2,h3,h4,h5,h6] at hK⊢
     clear h1 h2 h3 h4 h5 h6
     obtain⟨⟨g7,e7⟩,hv7⟩:=h7 (Nat.le_refl _)
     rw[e7] at hK hv7⊢
     refine jG ?_
     refine eP w5 _ _ rfl (.slice va8 x.vals.length vc8) x.vals rfl (yE HO8.out (show jB wr6 w5 from hW)) _ (ty,wd,n) g7 rfl hv7 rfl (by have:=HVS.out;omega) ?_
     intro v' w' ho hgr hnx
     exact hK _ _ _ rfl trivial (Moved.trans (Moved.of_grew (S:=fun k=>some k=(Value.slice va8 x.vals.length vc8).ownBlock) (show jB wr6 w5 from hW)) (Moved.of_grown hgr) (fun _ _ e=>e)) ⟨ho,fun k hk=>(hnx k hk).imp id (fun e=>Nat.le_trans (jB.size (show jB wr6 w5 from hW)) e)⟩
    refine⟨?_,?_⟩
    ·refine jJ 1 1 ?_
     intro y w5 p hlo hhi hW hD K hK
     simp only[jU,zq4,zq5,IsP] at hD
     have h0:=hD.1
     have h1:=hD.2.1
     have h2:=hD.2.2.1
     have h3:=hD.2.2.2.1
     have h4:=hD.2.2.2.2.1
     have h5:=hD.2.2.2.2.2.1
     have h6:=hD.2.2.2.2.2.2.1
     have h7:=hD.2.2.2.2.2.2.2.1
     have h8:=hD.2.2.2.2.2.2.2.2.1
     clear hD
     generalize hAA:jA y _ _=AA at hK⊢
     simp only[jA,Act.put,zq1,zq2,zq3,zq4,zq5,IsP] at hAA
     subst hAA
     simp only[zq4,zq5,IsP] at hK
     simp only[h0,h1,h2,h3,h4,h5,h6] at hK⊢
     clear h0 h1 h2 h3 h4 h5 h6
     refine jG ?_
     go_simp
     exact hK _ _ _ rfl (jB.refl _) rfl
    refine⟨?_,?_⟩
    ·refine jJ 1 1 ?_
     intro y w5 p hlo hhi hW hD K hK
     simp only[jU,zq4,zq5,IsP] at hD
     have h0:=hD.1
     have h1:=hD.2.1
     have h2:=hD.2.2.1
     have h3:=hD.2.2.2.1
     have h4:=hD.2.2.2.2.1
     have h5:=hD.2.2.2.2.2.1
     have h6:=hD.2.2.2.2.2.2.1
     have h7:=hD.2.2.2.2.2.2.2.1
     have h8:=hD.2.2.2.2.2.2.2.2.1
     have h9:=hD.2.2.2.2.2.2.2.2.2.1
     clear hD
     generalize hAA:jA y _ _=AA at hK⊢
     simp only[jA,Act.put,zq1,zq2,zq3,zq4,zq5,IsP] at hAA
     subst hAA
     simp only[zq4,zq5,IsP] at hK
     simp only[h0,h1,h2,h3,h4,h5,h6,h9] at hK⊢
     clear h0 h1 h2 h3 h4 h5 h6 h9
     refine jG ?_
     go_simp
     exact hK _ _ _ rfl (jB.refl _) rfl
    refine⟨?_,?_⟩
    ·refine jJ 1 1 ?_
     intro y w5 p hlo hhi hW hD K hK
     simp only[jU,zq4,zq5,IsP] at hD
     have h0:=hD.1
     have h1:=hD.2.1
     have h2:=hD.2.2.1
     have h3:=hD.2.2.2.1
     have h4:=hD.2.2.2.2.1
     have h5:=hD.2.2.2.2.2.1
     have h6:=hD.2.2.2.2.2.2.1
     have h7:=hD.2.2.2.2.2.2.2.1
     have h8:=hD.2.2.2.2.2.2.2.2.1
     have h9:=hD.2.2.2.2.2.2.2.2.2.1
     have h10:=hD.2.2.2.2.2.2.2.2.2.2.1
     clear hD
     generalize hAA:jA y _ _=AA at hK⊢
     simp only[jA,Act.put,zq1,zq2,zq3,zq4,zq5,IsP] at hAA
     subst hAA
     simp only[zq4,zq5,IsP] at hK
     simp only[h0,h1,h2,h3,h4,h5,h6,h9,h10] at hK⊢
     clear h0 h1 h2 h3 h4 h5 h6 h9 h10
     refine jG ?_
     go_simp
     exact hK _ _ _ rfl (jB.refl _) rfl
    refine⟨?_,?_⟩
    ·refine jP 1 rfl ?_
     intro y w5 hW hD K hK
     have hrp:w5.heap[q.p]? = some (ZO q flags (.slice va8 x.vals.length vc8) ({({x with s:=s1}:BS).fail ee with lists:=zE list x.vals.length x.lists}).e):=Moved.heap (show Moved _ wr6 w5 from hW) HR8.out (fun e=>zR HO8.out HR8.out (by decide) e.symm)
     have dd:=jK hrp 8 _ rfl
     have ff:=jE hrp 8
     simp only[jU,zq4,zq5,IsP] at hD
     have h0:=hD.1
     have h1:=hD.2.1
     have h2:=hD.2.2.1
     have h3:=hD.2.2.2.1
     have h4:=hD.2.2.2.2.1
     have h5:=hD.2.2.2.2.2.1
     have h6:=hD.2.2.2.2.2.2.1
     have h7:=hD.2.2.2.2.2.2.2.1
     have h8:=hD.2.2.2.2.2.2.2.2.1
     have h9:=hD.2.2.2.2.2.2.2.2.2.1
     have h10:=hD.2.2.2.2.2.2.2.2.2.2.1
     have h11:=hD.2.2.2.2.2.2.2.2.2.2.2.1
     clear hD
     generalize hAA:jA y _ _=AA at hK⊢
     simp only[jA,Act.put,zq1,zq2,zq3,zq4,zq5,IsP] at hAA
     subst hAA
     simp only[zq4,zq5,IsP] at hK
     simp only[h0,h1,h2,h3,h4,h5,h6,h9,h10,h11] at hK⊢
     clear h0 h1 h2 h3 h4 h5 h6 h9 h10 h11
     have hq:jQ w5 0 _ _∧zJ wr6 _ _:=h8
     obtain⟨a8,c8',e8,_⟩:=j8 hq.1
     replace e8:y 8=.slice a8 (x.vals.length+1) c8':=by rw[e8];simp
     rw[e8] at hK hq⊢
     clear e8 h8
     refine jG ?_
     go_simp
     exact hK _ undef _ rfl trivial (HE7.out.setVals HR8.out (show Moved _ wr6 w5 from hW) hq.1 hq.2 HLV.out HOV.out) trivial
    trivial
   refine⟨?_,?_⟩
   ·refine jJ 0 0 ?_
    intro y wr6 p hlo hhi hW hD K hK
    have dq:=Env.cell hW HN1.out 0 _ rfl
    clear hD
    generalize hAA:jA y _ _=AA at hK⊢
    simp only[jA,Act.put,zq1,zq2,zq3,zq4,zq5,IsP] at hAA
    subst hAA
    simp only[zq4,zq5,IsP] at hK
    refine jG ?_
    go_simp
    exact hK _ _ _ rfl (jB.refl _) rfl
   refine⟨?_,?_⟩
   ·refine jJ 0 0 ?_
    intro y wr6 p hlo hhi hW hD K hK
    simp only[jU,zq4,zq5,IsP] at hD
    have h0:=hD.1
    clear hD
    generalize hAA:jA y _ _=AA at hK⊢
    simp only[jA,Act.put,zq1,zq2,zq3,zq4,zq5,IsP] at hAA
    subst hAA
    simp only[zq4,zq5,IsP] at hK
    simp only[h0] at hK⊢
    clear h0
    refine jG ?_
    go_simp
    exact hK _ _ _ rfl (jB.refl _) rfl
   refine⟨?_,?_⟩
   ·refine jJ 0 0 ?_
    intro y wr6 p hlo hhi hW hD K hK
    simp only[jU,zq4,zq5,IsP] at hD
    have h0:=hD.1
    have h1:=hD.2.1
    clear hD
    generalize hAA:jA y _ _=AA at hK⊢
    simp only[jA,Act.put,zq1,zq2,zq3,zq4,zq5,IsP] at hAA
    subst hAA
    simp only[zq4,zq5,IsP] at hK
    simp only[h0,h1] at hK⊢
    clear h0 h1
    refine jG ?_
    go_simp
    exact hK _ _ _ rfl (jB.refl _) rfl
   refine⟨?_,?_⟩
   ·refine jJ 0 0 ?_
    intro y wr6 p hlo hhi hW hD K hK
    simp only[jU,zq4,zq5,IsP] at hD
    have h0:=hD.1
    have h1:=hD.2.1
    have h2:=hD.2.2.1
    clear hD
    generalize hAA:jA y _ _=AA at hK⊢
    simp only[jA,Act.put,zq1,zq2,zq3,zq4,zq5,IsP] at hAA
    subst hAA
    simp only[zq4,zq5,IsP] at hK
    simp only[h0,h1,h2] at hK⊢
    clear h0 h1 h2
    refine jG ?_
    go_simp
    exact hK _ _ _ rfl (jB.refl _) rfl
   refine⟨?_,?_⟩
   ·refine jJ 0 0 ?_
    intro y wr6 p hlo hhi hW hD K hK
    have dd:=Env.at6 hW
    simp only[jU,zq4,zq5,IsP] at hD
    have h0:=hD.1
    have h1:=hD.2.1
    have h2:=hD.2.2.1
    have h3:=hD.2.2.2.1
    clear hD
    generalize hAA:jA y _ _=AA at hK⊢
    simp only[jA,Act.put,zq1,zq2,zq3,zq4,zq5,IsP] at hAA
    subst hAA
    simp only[zq4,zq5,IsP] at hK
    simp only[h0,h1,h2,h3] at hK⊢
    clear h0 h1 h2 h3
    refine jG ?_
    go_simp
    exact hK _ _ _ rfl (jB.refl _) rfl
   refine⟨?_,?_⟩
   ·refine jJ 0 0 ?_
    intro y wr6 p hlo hhi hW hD K hK
    clear hD
    generalize hAA:jA y _ _=AA at hK⊢
    simp only[jA,Act.put,zq1,zq2,zq3,zq4,zq5,IsP] at hAA
    subst hAA
    simp only[zq4,zq5,IsP] at hK
    refine jG ?_
    go_simp
    exact hK _ _ _ rfl (jB.refl _) rfl
   refine⟨?_,?_⟩
   ·refine jJ 0 0 ?_
    intro y wr6 p hlo hhi hW hD K hK
    have di:=Env.cell hW List.mem_cons_self 0 _ rfl
    clear hD
    generalize hAA:jA y _ _=AA at hK⊢
    simp only[jA,Act.put,zq1,zq2,zq3,zq4,zq5,IsP] at hAA
    subst hAA
    simp only[zq4,zq5,IsP] at hK
    refine jG ?_
    go_simp
    exact hK _ _ _ rfl (jB.refl _) rfl
   refine⟨?_,?_⟩
   ·refine jP 0 rfl ?_
    intro y wr6 hW hD K hK
    simp only[jU,zq4,zq5,IsP] at hD
    have h0:=hD.1
    have h1:=hD.2.1
    have h2:=hD.2.2.1
    have h3:=hD.2.2.2.1
    have h4:=hD.2.2.2.2.1
    have h5:=hD.2.2.2.2.2.1
    have h6:=hD.2.2.2.2.2.2.1
    clear hD
    generalize hAA:jA y _ _=AA at hK⊢
    simp only[jA,Act.put,zq1,zq2,zq3,zq4,zq5,IsP] at hAA
    subst hAA
    simp only[zq4,zq5,IsP] at hK
    simp only[h0,h1,h2,h3,h4,h5,h6] at hK⊢
    clear h0 h1 h2 h3 h4 h5 h6
    refine jG ?_
    go_simp
    refine (Env.listsPut (x:=({x with s:=s1}:BS).fail ee) list (x.vals.length:Int) HLS.out hW).mono ?_
    rintro r w3 ⟨rfl,he⟩
    exact hK _ _ _ rfl trivial he rfl
   trivial
  | true=>
   have HO:=zh ho
   have HTE2:Hid (x.table most (onF flags 4) list keys vals=x.tableEnd most ga vals):=by have h:=HTE.out;show _=_;rw[ho] at h⊢;simpa using h
   clear ho
   go_wp2_with fail
   generalize (w2.alloc (.cells #[.int .i64 ga] 3))=w3 at *
   refine (HB1.out.onE 4).mono ?_
   rw[HO.out]
   rintro r w9 ⟨rfl,hw9⟩
   obtain rfl:w3=w9:=hw9.symm
   have hix:=HIX.out trivial
   obtain⟨i,hi1,hi2⟩:=hix
   subst hi1
   have HI:=zh hi2
   clear hi2
   have HB2:=HB1
   go_wp2_with fail
   have HT:Hid (∀κ1 wz,Tn κ κ1 w wz→Env B q most flags wz κ1 (((w2.heap.size,Obj.cells #[.int .i64 i] 3 (0,0))::[(w.heap.size+1,Obj.cells #[.slice va vals.length vc] 51 (0,0)),(w.heap.size,Obj.cells #[jF q.p] 23 (0,0))])) (x) wz→(x).e=0→Calls prog 167 #[.pointer (some ⟨w.heap.size,0,none⟩),.pointer (some ⟨w2.heap.size,0,none⟩),.pointer (some ⟨w.heap.size+1,0,none⟩)] wz fun r w'=>r=.returned (.tuple #[])∧j1 B q most flags κ1 ((x).tableEnd most i vals) wz w'):=fun κ1 wz ht he he0=>HT1.out _ (i) κ1 wz _ _ _ HG.out he0 (HI.out) ht (he.mono (fun z hz=>by simp only[List.mem_cons,List.not_mem_nil,or_false] at hz⊢;rcases hz with rfl | rfl | rfl<;>simp))
   refine (HB2.out.callT fun κ1 hb ht he=>k8 hb _ _ ((x).tableEnd most i vals) (fun hne=>by unfold BS.tableEnd;rw[if_neg hne]) (fun _=>enters_of func167 zk rfl _ _) (fun he0=>HT.out κ1 _ ht he he0)).mono ?_
   rintro r w9 ⟨rfl,he⟩
   have HF:=zh he
   clear he
   go_wp2
   go_end0
   exact⟨rfl,by rw[HTE2.out];exact HF.out.turn⟩
structure DoB where
 kind:Int
 start:Int
 n:Int
 u:Int
 s:ByteArray
 l:List Int
 t:List ByteArray
def DoB.ints (d:DoB):List Int:=d.l.take 40
def DoB.uints (d:DoB):List Int:=(d.l.take 40).map (· % 18446744073709551616)
def DoB.bools (d:DoB):List Bool:=(d.l.take 40).map fun v=>decide (v % 2≠0)
def DoB.from_ (d:DoB) (many:Nat):Int:=if d.u % 8=7 then d.start else d.start % (many+1)
def zS:List UInt8 × Int:=([],0)
def doB (most flags:Int) (d:DoB) (x:BS):(List UInt8 × Int) × BS:=
 if d.kind % 18=0 then (zS,x.inline (0,1,0))
 else if d.kind % 18=1 then (zS,x.inline (zD (decide (d.n % 2≠0))))
 else if d.kind % 18=2 then (zS,x.inline (yG d.n))
 else if d.kind % 18=3 then (zS,x.inline (yJ d.u))
 else if d.kind % 18=4 then (zS,x.apart most 6 (yG d.n))
 else if d.kind % 18=5 then (zS,x.apart most 7 (yJ d.u))
 else if d.kind % 18=6 then (zS,x.key most (onF flags 1) (qH d.s 60))
 else if d.kind % 18=7 then (zS,x.str most (onF flags 2) (qH d.s 60))
 else if d.kind % 18=8 then (zS,x.blob most (qH d.s 60))
 else if d.kind % 18=9 then (zS,x.vector most 1 0 (d.ints.map yG))
 else if d.kind % 18=10 then (zS,x.vector most 2 0 (d.uints.map yJ))
 else if d.kind % 18=11 then (zS,x.vector most 26 0 (d.bools.map zD))
 else if d.kind % 18=12 then (zS,x.keyVec most (onF flags 1) (zL d.t 20 60))
 else if d.kind % 18=13 then (zS,x.fixed most 1 (d.ints.map yG))
 else if d.kind % 18=14 then (zS,x.fixed most 2 (d.uints.map yJ))
 else if d.kind % 18=15 then (zS,x.endVec most (d.from_ x.stk.length))
 else if d.kind % 18=16 then (zS,x.endMap most (onF flags 4) (d.from_ x.stk.length))
 else x.finish most
def BS.new:BS:=⟨([],0),0,[],[],[],[],[],[]⟩
def doAll (most flags:Int) (l:List DoB) (x:BS):BS:=l.foldl (fun x d=>(doB most flags d x).2) x
def vA (flags:Int) (want:ByteArray) (e:Int) (l:List DoB):Bool:=
 decide ((⟨((doAll 1000 flags l BS.new).finish 1000).1.1.toArray⟩:ByteArray)=want) && decide (((doAll 1000 flags l BS.new).finish 1000).1.2=e)
theorem VP {a b:Int} (h:b≠0):kF a b≠0:=by
 unfold kF
 split
 ·exact h
 ·assumption
theorem yB {α:Type} {c:Prop} [Decidable c] {P:α→Prop} {a b:α} (ha:P a) (hb:P b):P (if c then a else b):=by
 split
 ·exact ha
 ·exact hb
theorem gG {most:Int} {x:BS}:(x.finish most).2.e≠0:=by
 unfold BS.finish
 dsimp only
 generalize (if x.stk.length≠1 then x.fail 140 else x)=x0
 by_cases h:x0.e≠0
 ·rw[if_pos h];exact h
 ·rw[if_neg h];exact VP (by decide)
theorem BS.Good.finish {most:Int} {x:BS}:(x.finish most).2.Good:=BS.Good.stuck gG
theorem BS.Good.doB {most flags:Int} {d:DoB} {x:BS} (h:x.Good):(doB most flags d x).2.Good:=by
 unfold Go.Proofs.YtjnpcddbgfmpcaaGreat.doB
 refine yB (P:=fun r:(List UInt8 × Int) × BS=>r.2.Good) ?_ (yB (P:=fun r:(List UInt8 × Int) × BS=>r.2.Good) ?_ (yB (P:=fun r:(List UInt8 × Int) × BS=>r.2.Good) ?_ (yB (P:=fun r:(List UInt8 × Int) × BS=>r.2.Good) ?_ (yB (P:=fun r:(List UInt8 × Int) × BS=>r.2.Good) ?_ (yB (P:=fun r:(List UInt8 × Int) × BS=>r.2.Good) ?_ (yB (P:=fun r:(List UInt8 × Int) × BS=>r.2.Good) ?_ (yB (P:=fun r:(List UInt8 × Int) × BS=>r.2.Good) ?_ (yB (P:=fun r:(List UInt8 × Int) × BS=>r.2.Good) ?_ (yB (P:=fun r:(List UInt8 × Int) × BS=>r.2.Good) ?_ (yB (P:=fun r:(List UInt8 × Int) × BS=>r.2.Good) ?_ (yB (P:=fun r:(List UInt8 × Int) × BS=>r.2.Good) ?_ (yB (P:=fun r:(List UInt8 × Int) × BS=>r.2.Good) ?_ (yB (P:=fun r:(List UInt8 × Int) × BS=>r.2.Good) ?_ (yB (P:=fun r:(List UInt8 × Int) × BS=>r.2.Good) ?_ (yB (P:=fun r:(List UInt8 × Int) × BS=>r.2.Good) ?_ (yB (P:=fun r:(List UInt8 × Int) × BS=>r.2.Good) ?_ (?_)))))))))))))))))
 ·exact h.inline
 ·exact h.inline
 ·exact h.inline
 ·exact h.inline
 ·exact h.apart
 ·exact h.apart
 ·exact h.key
 ·exact h.str
 ·exact h.blob
 ·exact h.vector
 ·exact h.vector
 ·exact h.vector
 ·exact h.keyVec
 ·exact h.fixed
 ·exact h.fixed
 ·exact h.endVec
 ·exact h.endMap
 ·exact BS.Good.finish
theorem BS.Good.new:BS.new.Good:=⟨fun _=>rfl,fun _ z hz=>absurd hz List.not_mem_nil,fun _=>Nat.le_refl _,fun _=>Nat.le_refl _,fun _=>Nat.le_refl _,fun _=>Nat.le_refl _,fun _ z hz=>absurd hz List.not_mem_nil,fun _ z hz=>absurd hz List.not_mem_nil⟩
structure BRec where
 q:kE
 most:Int
 flags:Int
 x:BS
def Lv (w0:World) (R:List BRec) (Kp:List (Nat × Obj)) (w:World):Prop:=
 ∃κ:Nat→Nat→Nat,(∀i r,R[i]? = some r→Bd w0.heap.size r.q r.most r.flags (κ i) r.x w)∧(∀i j k,i < R.length→j < R.length→i≠j→κ i k≠0→κ j k=0)∧(∀z∈Kp,w.heap[z.1]? = some z.2∧∀i,i < R.length→κ i z.1=0)∧Below w0.heap.size w0 w
section
variable {w0 w w':World} {R:List BRec} {Kp:List (Nat × Obj)}
theorem Lv.nil (w0:World):Lv w0 [] [] w0:=⟨fun _ _=>0,fun i r h=>by simp at h,fun i j k h=>by simp at h,fun z h=>by simp at h,Below.refl _ _⟩
theorem Lv.below (h:Lv w0 R Kp w):Below w0.heap.size w0 w:=by obtain⟨_,_,_,_,h⟩:=h;exact h
theorem Lv.kp (h:Lv w0 R Kp w) {n:Nat} {o:Obj} (hm:(n,o)∈Kp):w.heap[n]? = some o:=by obtain⟨κ,_,_,h3,_⟩:=h;exact (h3 _ hm).1
theorem Lv.grew (h:Lv w0 R Kp w) (hg:jB w w'):Lv w0 R Kp w':=by
 obtain⟨κ,h1,h2,h3,h4⟩:=h
 exact⟨κ,fun i r hr=>(h1 i r hr).grew hg,h2,fun z hz=>⟨hg.heap (h3 z hz).1,(h3 z hz).2⟩,Below.trans h4 (Below.mono hg h4.size)⟩
theorem Bd.moved {B:Nat} {q:kE} {most flags:Int} {κ:Nat→Nat} {x:BS} {S:Nat→Prop} (h:Bd B q most flags κ x w) (hm:Moved S w w') (hd:∀k,κ k≠0→¬S k):Bd B q most flags κ x w':=
 have hdc:∀c,c≠0→∀k,κ k=c→¬S k:=fun c hc k hk=>hd k (by rw[hk];exact hc)
 ⟨fun k hk=>⟨(h.lt k hk).1,Nat.lt_of_lt_of_le (h.lt k hk).2 hm.size⟩,h.ok,h.self.kept hm (hdc 1 (by decide)),h.buf.kept hm (hdc 2 (by decide)),h.stk.kept hm (hdc 3 (by decide)),h.keys.kept hm (hdc 4 (by decide)),h.texts.kept hm (hdc 5 (by decide)),h.lists.kept hm (hdc 6 (by decide)),h.names.kept hm (hdc 7 (by decide))⟩
theorem Lv.turn1 {κ:Nat→Nat→Nat} (h1:∀i r,R[i]? = some r→Bd w0.heap.size r.q r.most r.flags (κ i) r.x w) (h2:∀i j k,i < R.length→j < R.length→i≠j→κ i k≠0→κ j k=0) (h3:∀z∈Kp,w.heap[z.1]? = some z.2∧∀i,i < R.length→κ i z.1=0) (h4:Below w0.heap.size w0 w)
 {i:Nat} {r:BRec} {x':BS} {Z:List (Nat × Obj)} (hr:R[i]? = some r) (hc:∃κ',Bd w0.heap.size r.q r.most r.flags κ' x' w'∧Tn (κ i) κ' w w'∧∀z∈Z,w.heap.size≤z.1∧w'.heap[z.1]? = some z.2∧κ' z.1=0):Lv w0 (R.set i {r with x:=x'}) (Z++Kp) w':=by
 have hi:i < R.length:=(List.getElem?_eq_some_iff.1 hr).1
 obtain⟨κ',k1,k2,k3⟩:=hc
 have hnew:∀k,κ' k≠0→κ i k≠0∨w.heap.size≤k:=fun k hk=>by
  by_cases hl:k < w.heap.size
  ·exact .inl (by rwa [k2.2 k hl] at hk)
  ·exact .inr (by omega)
 have hlt:∀j,j < R.length→∀k,κ j k≠0→k < w.heap.size:=fun j hj k hk=>((h1 j _ (List.getElem?_eq_getElem hj)).lt k hk).2
 have hoth:∀j,j < R.length→j≠i→∀k,κ j k≠0→¬κ i k≠0:=fun j hj hne k hk e=>hk (h2 i j k hi hj (fun e=>hne e.symm) e)
 refine⟨fun j=>if j=i then κ' else κ j,fun j s hs=>?_,fun a b k ha hb hab hk=>?_,fun z hz=>⟨?_,fun j hj=>?_⟩,?_⟩
 ·by_cases e:j=i
  ·subst e
   rw[List.getElem?_set_self hi] at hs
   cases hs
   simpa using k1
  ·rw[List.getElem?_set_ne (fun h=>e h.symm)] at hs
   have hj:j < R.length:=(List.getElem?_eq_some_iff.1 hs).1
   simp only[if_neg e]
   exact (h1 j s hs).moved k2.1 (hoth j hj e)
 ·rw[List.length_set] at ha hb
  dsimp only at hk⊢
  by_cases ea:a=i
  ·subst ea
   rw[if_pos rfl] at hk
   rw[if_neg (fun h=>hab h.symm)]
   rcases hnew k hk with e|e
   ·exact h2 a b k ha hb hab e
   ·exact Decidable.byContradiction fun hz=>by have:=hlt b hb k hz;omega
  ·rw[if_neg ea] at hk
   by_cases eb:b=i
   ·subst eb
    rw[if_pos rfl]
    refine Decidable.byContradiction fun hz=>?_
    rcases hnew k hz with e|e
    ·exact hoth a ha ea k hk e
    ·have:=hlt a ha k hk;omega
   ·rw[if_neg eb]
    exact h2 a b k ha hb hab hk
 ·rcases List.mem_append.1 hz with hz|hz
  ·exact (k3 z hz).2.1
  ·exact k2.1.heap (h3 z hz).1 (fun e=>e ((h3 z hz).2 i hi))
 ·rw[List.length_set] at hj
  dsimp only
  rcases List.mem_append.1 hz with hz|hz
  ·by_cases e:j=i
   ·rw[if_pos e];exact (k3 z hz).2.2
   ·rw[if_neg e]
    exact Decidable.byContradiction fun hk=>by have:=hlt j hj z.1 hk;have:=(k3 z hz).1;omega
  ·by_cases e:j=i
   ·rw[if_pos e,k2.2 _ (Array.getElem?_eq_some_iff.1 (h3 z hz).1).1]
    exact (h3 z hz).2 i hi
   ·rw[if_neg e]
    exact (h3 z hz).2 j hj
 ·exact Below.trans h4 (k2.1.below h4.size (fun k hk=>((h1 i r hr).lt k hk).1))
theorem Lv.call (h:Lv w0 R Kp w) (i:Nat) {r:BRec} {x':BS} {f:Nat} {args:Array Value} {P:Ending→Prop} (hr:R[i]? = some r) (hc:∀κ,Bd w0.heap.size r.q r.most r.flags κ r.x w→(∀z∈Kp,κ z.1=0)→Calls prog f args w fun e w'=>P e∧j1 w0.heap.size r.q r.most r.flags κ x' w w') :
 Calls prog f args w fun e w'=>P e∧Lv w0 (R.set i {r with x:=x'}) Kp w':=by
 have h':=h
 obtain⟨κ,h1,h2,h3,h4⟩:=h
 have hi:i < R.length:=(List.getElem?_eq_some_iff.1 hr).1
 refine (hc (κ i) (h1 i r hr) (fun z hz=>(h3 z hz).2 i hi)).mono fun e w' he=>⟨he.1,?_⟩
 obtain⟨κ',k1,k2⟩:=he.2
 have hL:Lv w0 R Kp w:=⟨κ,h1,h2,h3,h4⟩
 have:=Lv.turn1 h1 h2 h3 h4 (Z:=[]) hr ⟨κ',k1,k2,fun z hz=>by cases hz⟩
 exact this
end
end Go.Proofs.YtjnpcddbgfmpcaaGreat
namespace Go.Proofs.YtjnpcddbgfmpcaaGreat
open Go.Proofs.Tryz
open Go Go.ChangeShapes Go.WideShapes Go.ChangeAt Go.RowKit Go.Joins Go.Deep
open Go.Proofs.YtjnpcddbgfmpcaaGreat.Ft (V3 vV okV ValsAt inlineB legalB packF codeF typedF allF oneF fitsF belowW)
theorem iE {x:BS} {v:V3} (he:x.e=0) (hs:x.s.2=0) (hl:x.stk.length+1≤65536):x.push v={x with stk:=x.stk++[v]}:=by
 obtain⟨s,e,stk,a,b,c,d,f⟩:=x
 dsimp only at he hs hl
 subst he
 unfold BS.push
 have h0:kF 0 s.2=0:=by unfold kF;rw[if_pos rfl];exact hs
 dsimp only
 rw[if_pos h0,if_pos hl]
theorem gH {most w:Int} {b:List UInt8} (hw:isW w=true) (h:(b.length:Int)+kV b w≤most):jH most w (b,0)=(b++kH (kV b w),0):=by
 unfold jH
 rw[if_pos hw]
 exact KZ _ _ _ (by rw[kW];exact h)
def qR (p w:Int) (v:V3):Int:=if inlineB v.1 then kO v.2.2 w else p - v.2.2
def vD (w:Int) (v:V3):UInt8:=UInt8.ofNat (packF v.1 (if inlineB v.1 then w else v.2.1)).1.toNat
def KA (b:List UInt8) (v:V3):List UInt8:=
 let w:=oneF v.1 v.2.1 v.2.2 b.length 0
 b++[kH (kV b w),zH w.toNat (qR ((b.length:Int)+kV b w) w v).toNat,[vD w v,UInt8.ofNat w.toNat]].flatten
theorem one_isW {t wd n p:Int} (h:oneF t wd n p 0≠0):isW (oneF t wd n p 0)=true:=by
 unfold oneF at h⊢
 split at h
 ·rename_i hc
  rw[if_pos hc]
  unfold Ft.leastOf at h⊢
  repeat' split at h
  all_goals simp_all [isW]
 ·exact absurd rfl h
theorem YE {b:List UInt8} {v:V3} (hb:b.length≤1048576) (hn:Q8 b.length v):isW (oneF v.1 v.2.1 v.2.2 b.length 0)=true∧fitsF v.1 v.2.1 v.2.2 b.length 0 (oneF v.1 v.2.1 v.2.2 b.length 0)=true:=by
 obtain⟨_,ho,h1,h2⟩:=hn
 have hp8:(2:Int) ^ (8*(8:Int).toNat)=18446744073709551616:=by decide
 have h8:fitsF v.1 v.2.1 v.2.2 b.length 0 8=true:=by
  unfold fitsF
  cases hi:inlineB v.1 with
  | true=>simp;exact h1 hi
  | false=>
   have h3:=h2 hi
   have h4:=ho.1
   simp only[Bool.false_eq_true,if_false,Bool.and_eq_true,decide_eq_true_eq,belowW,hp8]
   exact⟨h3,by omega⟩
 have e:oneF v.1 v.2.1 v.2.2 b.length 0=Ft.leastOf (fun w=>fitsF v.1 v.2.1 v.2.2 b.length 0 w):=by
  unfold oneF
  rw[if_pos ⟨⟨by omega,by omega⟩,by omega,by omega⟩]
 have h0:oneF v.1 v.2.1 v.2.2 b.length 0≠0:=by rw[e];exact fV (p:=fun w=>fitsF v.1 v.2.1 v.2.2 b.length 0 w) h8
 refine⟨one_isW h0,?_⟩
 have:=V4 (p:=fun w=>fitsF v.1 v.2.1 v.2.2 b.length 0 w) (by rw[← e];exact h0)
 rw[← e] at this
 exact this
theorem bH {b:List UInt8} {v:V3} {w:Int} (hw:isW w=true) (hn:Q8 b.length v) (hf:fitsF v.1 v.2.1 v.2.2 b.length 0 w=true) :
 0≤qR ((b.length:Int)+kV b w) w v∧qR ((b.length:Int)+kV b w) w v < 2 ^ (8*w.toNat):=by
 unfold qR
 unfold fitsF at hf
 cases hi:inlineB v.1 with
 | true=>
  simp only[if_true]
  exact low_lt _ _
 | false=>
  rw[hi] at hf
  simp only[Bool.false_eq_true,if_false,Bool.and_eq_true,decide_eq_true_eq,belowW,Int.zero_mul,Int.add_zero] at hf⊢
  rw[pad_eq hw]
  have hge:(b.length:Int)≤((b.length:Int)+w - 1) / w*w:=by rcases kC hw with rfl | rfl | rfl | rfl<;>omega
  exact⟨by omega,hf.2⟩
theorem VQ {b:List UInt8} {v:V3} (hw:isW (oneF v.1 v.2.1 v.2.2 b.length 0)=true):((KA b v).length:Int)=b.length+kV b (oneF v.1 v.2.1 v.2.2 b.length 0)+oneF v.1 v.2.1 v.2.2 b.length 0+2:=by
 have hp:=y8 hw
 unfold KA
 simp only[List.flatten_cons,List.flatten_nil,List.length_append,kW,j2,List.length_cons,List.length_nil]
 omega
theorem cH {most:Int} {x:BS} {b:List UInt8} {v:V3} (he:x.e=0) (hs:x.s=(b,0)) (hk:x.stk=[v]) (hb:b.length≤1048576) (hbm:(b.length:Int)≤most) (hn:Q8 b.length v) :
 (x.finish most).1=(ZZ (Q7 most [kH (kV b (oneF v.1 v.2.1 v.2.2 b.length 0)),zH (oneF v.1 v.2.1 v.2.2 b.length 0).toNat (qR ((b.length:Int)+kV b (oneF v.1 v.2.1 v.2.2 b.length 0)) (oneF v.1 v.2.1 v.2.2 b.length 0) v).toNat,[vD (oneF v.1 v.2.1 v.2.2 b.length 0) v,UInt8.ofNat (oneF v.1 v.2.1 v.2.2 b.length 0).toNat]] (b,0)),(Q7 most [kH (kV b (oneF v.1 v.2.1 v.2.2 b.length 0)),zH (oneF v.1 v.2.1 v.2.2 b.length 0).toNat (qR ((b.length:Int)+kV b (oneF v.1 v.2.1 v.2.2 b.length 0)) (oneF v.1 v.2.1 v.2.2 b.length 0) v).toNat,[vD (oneF v.1 v.2.1 v.2.2 b.length 0) v,UInt8.ofNat (oneF v.1 v.2.1 v.2.2 b.length 0).toNat]] (b,0)).2):=by
 obtain⟨hw,hf⟩:=YE hb hn
 unfold BS.finish
 have h0:(if x.stk.length≠1 then x.fail 140 else x)=x:=by rw[hk];rfl
 simp only[h0,he,hs,hk,ne_eq,not_true_eq_false,if_false,zq4]
 generalize oneF v.1 v.2.1 v.2.2 b.length 0=w at *
 have hr:=bH hw hn hf
 have hpw:=isW_pow hw
 have e1:jH most w (b,0)=j7 most (kH (kV b w)) (b,0):=by unfold jH;rw[if_pos hw]
 rw[e1]
 have key:j7 most [UInt8.ofNat (packF v.1 (if inlineB v.1=true then w else v.2.1)).1.toNat,UInt8.ofNat w.toNat] (jW most w (if inlineB v.1=true then kO v.2.2 w else IntKind.u64.wrap (((j7 most (kH (kV b w)) (b,0)).1.length:Int) - v.2.2)) (j7 most (kH (kV b w)) (b,0)))=Q7 most [kH (kV b w),zH w.toNat (qR ((b.length:Int)+kV b w) w v).toNat,[vD w v,UInt8.ofNat w.toNat]] (b,0):=by
  show j7 most _ (jW most w _ _)=j7 most _ (j7 most _ (j7 most (kH (kV b w)) (b,0)))
  by_cases hfit:(b.length:Int)+kV b w≤most
  ·rw[KZ _ _ _ (by rw[kW];exact hfit)]
   have hn2:(if inlineB v.1=true then kO v.2.2 w else IntKind.u64.wrap (((b++kH (kV b w),(0:Int)).1.length:Int) - v.2.2))=qR ((b.length:Int)+kV b w) w v:=by
    unfold qR at hr⊢
    have hl:(((b++kH (kV b w),(0:Int)).1.length:Nat):Int)=(b.length:Int)+kV b w:=by
     show ((b++kH (kV b w)).length:Int)=_
     rw[List.length_append,kW];omega
    split
    ·rfl
    ·rename_i hi
     rw[if_neg hi] at hr
     rw[hl,IntKind.wrap_u64]
     omega
   rw[hn2,dM hw hr.2]
   rfl
  ·have h5:j7 most (kH (kV b w)) (b,0)=(b,5):=i5 (by rw[kW];exact hfit)
   rw[h5,fU (s:=(b,5)) (show (5:Int)≠0 by decide),JX (s:=(b,5)) (show (5:Int)≠0 by decide),JX (s:=(b,5)) (show (5:Int)≠0 by decide),JX (s:=(b,5)) (show (5:Int)≠0 by decide)]
 rw[key]
 simp only[List.length_cons,List.length_nil,Nat.zero_add,not_true_eq_false,if_false,he]
theorem YZ {most:Int} {x:BS} {b:List UInt8} {v:V3} (he:x.e=0) (hs:x.s=(b,0)) (hk:x.stk=[v]) (hb:b.length≤1048576) (hn:Q8 b.length v) (hm:((KA b v).length:Int)≤most):(x.finish most).1=(KA b v,0):=by
 have hl:=VQ (YE hb hn).1
 have hp:=y8 (YE hb hn).1
 rw[cH he hs hk hb (by omega) hn]
 have e:=aP (most:=most) [kH (kV b (oneF v.1 v.2.1 v.2.2 b.length 0)),zH (oneF v.1 v.2.1 v.2.2 b.length 0).toNat (qR ((b.length:Int)+kV b (oneF v.1 v.2.1 v.2.2 b.length 0)) (oneF v.1 v.2.1 v.2.2 b.length 0) v).toNat,[vD (oneF v.1 v.2.1 v.2.2 b.length 0) v,UInt8.ofNat (oneF v.1 v.2.1 v.2.2 b.length 0).toNat]] b (by
  have h2:((KA b v).length:Int)=b.length+([kH (kV b (oneF v.1 v.2.1 v.2.2 b.length 0)),zH (oneF v.1 v.2.1 v.2.2 b.length 0).toNat (qR ((b.length:Int)+kV b (oneF v.1 v.2.1 v.2.2 b.length 0)) (oneF v.1 v.2.1 v.2.2 b.length 0) v).toNat,[vD (oneF v.1 v.2.1 v.2.2 b.length 0) v,UInt8.ofNat (oneF v.1 v.2.1 v.2.2 b.length 0).toNat]].flatten.length:Nat):=by
   unfold KA
   rw[List.length_append]
   omega
  omega)
 rw[e]
 rfl
end Go.Proofs.YtjnpcddbgfmpcaaGreat
namespace Go.Proofs.YtjnpcddbgfmpcaaGreat
open Go.Proofs.Tryz
open Go Go.ChangeShapes Go.WideShapes Go.ChangeAt Go.RowKit Go.Joins Go.Deep
open Go.Proofs.YtjnpcddbgfmpcaaGreat.Ft (V3 vV okV ValsAt inlineB legalB packF codeF typedF allF oneF fitsF belowW allAt headF fitsL fitsV)
theorem bI (n:Nat) (h:n < 2 ^ 64):(n:Int) < 2 ^ (8*(Ft.widthOf n).toNat):=by
 unfold Ft.widthOf
 repeat' split
 ·show (n:Int) < 2 ^ 8;omega
 ·show (n:Int) < 2 ^ 16;omega
 ·show (n:Int) < 2 ^ 32;omega
 ·show (n:Int) < 2 ^ 64;omega
theorem KQ (k z:ByteArray):(jS [k,z]).length=k.size+z.size:=by
 have h:(jS [k,z]).length=k.data.size+z.data.size:=by simp[jS]
 exact h
def v7 (b:List UInt8) (k z:ByteArray):List UInt8:=kH (kV b (Ft.widthOf k.size))++zH (Ft.widthOf k.size).toNat k.size++jS [k,z]
def bJ (b:List UInt8) (k:ByteArray):Int:=(b.length:Int)+kV b (Ft.widthOf k.size)+Ft.widthOf k.size
theorem J2 (b:List UInt8) (k z:ByteArray):((v7 b k z).length:Int)=kV b (Ft.widthOf k.size)+Ft.widthOf k.size+k.size+z.size:=by
 have hp:=y8 (yV k.size)
 unfold v7
 rw[List.length_append,List.length_append,kW,j2,KQ]
 omega
theorem iF {most t:Int} {x:BS} {b:List UInt8} {k z:ByteArray} (he:x.e=0) (hs:x.s=(b,0)) (hl:x.stk.length+1≤65536) (hk:k.size < 2 ^ 64) (hm:((b++v7 b k z).length:Int)≤most) :
 x.text most t k z={x with s:=(b++v7 b k z,0),texts:=if t=5 then zE k (bJ b k) x.texts else x.texts,stk:=x.stk++[(t,Ft.widthOf k.size,bJ b k)]}:=by
 have hw:=yV k.size
 have hp:=y8 hw
 have hlt:=J2 b k z
 rw[List.length_append] at hm
 have e1:jH most (Ft.widthOf k.size) (b,0)=(b++kH (kV b (Ft.widthOf k.size)),0):=gH hw (by omega)
 have e2:jW most (Ft.widthOf k.size) k.size (jH most (Ft.widthOf k.size) x.s)=(b++kH (kV b (Ft.widthOf k.size))++zH (Ft.widthOf k.size).toNat k.size,0):=by
  rw[hs,e1,dM hw (bI k.size hk)]
  exact KZ _ _ _ (by rw[List.length_append,kW,j2];omega)
 have e3:j7 most (jS [k,z]) (b++kH (kV b (Ft.widthOf k.size))++zH (Ft.widthOf k.size).toNat k.size,0)=(b++v7 b k z,0):=by
  rw[KZ _ _ _ (by rw[List.length_append,List.length_append,kW,j2,KQ];omega)]
  simp only[v7,List.append_assoc]
 have e4:((b++kH (kV b (Ft.widthOf k.size))++zH (Ft.widthOf k.size).toNat k.size).length:Int)=bJ b k:=by
  unfold bJ
  rw[List.length_append,List.length_append,kW,j2]
  omega
 unfold BS.text
 simp only[e2,e3,e4]
 exact iE he rfl hl
theorem inl5:inlineB 5=false:=by decide
theorem legal5 (w n:Int) (h:isW w=true):jZ (5,w,n)=0:=by
 have h1:legalB 5=true:=by decide
 unfold jZ
 rw[if_pos h1,if_neg (by rw[show ((5:Int),w,n).1=5 from rfl,inl5];decide)]
 rw[if_pos h]
theorem eQ {n t w p:Int} (hl:jZ (t,w,p)=0) (hi:inlineB t=false) (h0:0≤p) (h1:p≤n) (hn:n≤18446744073709551615):Q8 n (t,w,p):=
 ⟨hl,⟨h0,Int.le_trans h1 hn⟩,fun h=>absurd h (by rw[show ((t,w,p):V3).1=t from rfl,hi];decide),fun _=>h1⟩
theorem nP {most:Int} {x:BS} {k:ByteArray} {sh:Bool} (he:x.e=0) (hg:((yF x.texts k).2 && sh)=false):x.str most sh k=x.text most 5 k ⟨#[0]⟩:=by
 unfold BS.str
 dsimp only
 rw[if_pos he,hg]
 simp
end Go.Proofs.YtjnpcddbgfmpcaaGreat
namespace Go.Proofs.YtjnpcddbgfmpcaaGreat
open Go.Proofs.Tryz
open Go Go.ChangeShapes Go.WideShapes Go.ChangeAt Go.RowKit Go.Joins Go.Deep
open Go.Proofs.YtjnpcddbgfmpcaaGreat.Ft (V3 vV okV ValsAt inlineB legalB packF codeF typedF allF oneF fitsF belowW allAt headF fitsL fitsV unpackF)
structure DocEnd (d:List UInt8) (p w:Int) (v:V3):Prop where
 isw:isW w=true
 len:(d.length:Int)=p+w+2
 p0:0≤p
 wid:d[d.length - 1]? = some (UInt8.ofNat w.toNat)
 tag:d[d.length - 2]? = some (vD w v)
 num:yU d p w=(qR p w v,0)
theorem iG {b:List UInt8} {v:V3} (hb:b.length≤1048576) (hn:Q8 b.length v):DocEnd (KA b v) ((b.length:Int)+kV b (oneF v.1 v.2.1 v.2.2 b.length 0)) (oneF v.1 v.2.1 v.2.2 b.length 0) v:=by
 obtain⟨hw,hf⟩:=YE hb hn
 have hl:=VQ hw
 have hd:KA b v=b++[kH (kV b (oneF v.1 v.2.1 v.2.2 b.length 0)),zH (oneF v.1 v.2.1 v.2.2 b.length 0).toNat (qR ((b.length:Int)+kV b (oneF v.1 v.2.1 v.2.2 b.length 0)) (oneF v.1 v.2.1 v.2.2 b.length 0) v).toNat,[vD (oneF v.1 v.2.1 v.2.2 b.length 0) v,UInt8.ofNat (oneF v.1 v.2.1 v.2.2 b.length 0).toNat]].flatten:=rfl
 have hr:=bH hw hn hf
 generalize KA b v=d at *
 generalize oneF v.1 v.2.1 v.2.2 b.length 0=w at *
 have hp:=y8 hw
 have hd2:d=(b++kH (kV b w))++zH w.toNat (qR ((b.length:Int)+kV b w) w v).toNat++[vD w v,UInt8.ofNat w.toNat]:=by rw[hd];simp
 have j9:((b++kH (kV b w))++zH w.toNat (qR ((b.length:Int)+kV b w) w v).toNat).length=d.length - 2:=by
  have h2:=congrArg List.length hd2
  simp only[List.length_append,List.length_cons,List.length_nil] at h2⊢
  omega
 refine⟨hw,by rw[hl],by omega,?_,?_,?_⟩
 ·obtain⟨n,hn1⟩:∃n,d.length - 1=n:=⟨_,rfl⟩
  rw[hn1,hd2,List.getElem?_append_right (by omega),j9,show n - (d.length - 2)=1 by omega]
  rfl
 ·obtain⟨n,hn1⟩:∃n,d.length - 2=n:=⟨_,rfl⟩
  rw[hn1,hd2,List.getElem?_append_right (by omega),j9,show n - (d.length - 2)=0 by omega]
  rfl
 ·exact Q9 hw hd2 (by rw[List.length_append,kW];omega) hr.1 hr.2
theorem eR {w:Int} {v:V3} (hw:isW w=true) (hl:jZ v=0):unpackF (vD w v).toNat=(v.1,if inlineB v.1 then w else v.2.1,0):=fW (x:=w) (v:=v) hw hl
theorem gI {t w n:Int} (hi:inlineB t=true) (hl:legalB t=true) (hw:isW w=true) (h0:0≤n) (h1:n≤18446744073709551615) :
 ((BS.new.inline (t,w,n)).finish 100).1=(zH w.toNat (kO n w).toNat++[vD w (t,w,n),UInt8.ofNat w.toNat],0):=by
 have hn:Q8 ([]:List UInt8).length (t,w,n):=⟨YP hl hi,⟨h0,h1⟩,fun _=>(y8 hw).2,fun h=>by rw[show ((t,w,n):V3).1=t from rfl,hi] at h;cases h⟩
 have hone:oneF t w n (([]:List UInt8).length:Int) 0=w:=by
  unfold oneF
  rw[if_pos (by simp)]
  unfold Ft.leastOf fitsF
  rw[hi]
  rcases kC hw with rfl|rfl|rfl|rfl<;>simp
 have hx:BS.new.inline (t,w,n)={BS.new with stk:=[(t,w,n)]}:=by
  unfold BS.inline
  rw[if_pos (show BS.new.e=0 from rfl),iE rfl rfl (by decide)]
  rfl
 have hpad:kV ([]:List UInt8) w=0:=by unfold kV;rcases kC hw with rfl | rfl | rfl | rfl<;>decide
 have hd:KA [] (t,w,n)=zH w.toNat (kO n w).toNat++[vD w (t,w,n),UInt8.ofNat w.toNat]:=by
  unfold KA
  dsimp only
  rw[show ((([]:List UInt8).length:Nat):Int)=0 from rfl] at hone⊢
  rw[hone,hpad]
  unfold qR
  rw[show ((t,w,n):V3).1=t from rfl,hi]
  simp[kH]
 rw[hx,← hd]
 have hp:=y8 hw
 refine YZ (b:=[]) rfl rfl rfl (by decide) hn ?_
 rw[hd,List.length_append,j2]
 simp
 omega
end Go.Proofs.YtjnpcddbgfmpcaaGreat
