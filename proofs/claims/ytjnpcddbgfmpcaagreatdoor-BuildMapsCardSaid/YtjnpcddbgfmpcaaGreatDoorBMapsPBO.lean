/-
  Texts of the proof.
-/
import Derived.Test.YtjnpcddbgfmpcaaGreatDoorBMapsPBN
import Derived.ArgAppend
set_option linter.unusedVariables false
set_option linter.unusedSimpArgs false
set_option maxHeartbeats 32000000
set_option maxRecDepth 100000
namespace Go.Proofs.YtjnpcddbgfmpcaaGreatDoor
open Go.Proofs.Tryz
open Go Go.ChangeShapes Go.WideShapes Go.ChangeAt Go.RowKit Go.Joins
open Go.Proofs.YtjnpcddbgfmpcaaGreatDoor.Ft (V3 vV okV ValsAt inlineB legalB packF codeF typedF allF allAt fitsL fitsV fitsF headF belowW)
theorem d8 {w:World} {B B':Nat} {v:Value} {l:List V3} (h:jO w B v l) (hb:B'≤B):jO w B' v l:=by
 refine⟨h.1,?_⟩
 rcases h.2 with h2|⟨g,cap,cur,e,hg,r⟩
 ·exact .inl h2
 ·exact .inr ⟨g,cap,cur,e,Nat.le_trans hb hg,r⟩
abbrev YI (V:V3):Obj:=.cells #[.int .i64 V.1,.int .i64 V.2.1,.int .u64 V.2.2] 65 (0,0)
theorem mQ {w:World} {g B:Nat} {V:V3} (hB:B≤g) (hg:w.heap[g]? = some (YI V)):jO w B (.slice (some ⟨g,0,none⟩) 1 1) [V]:=
 ⟨rfl,.inr ⟨g,1,_,rfl,hB,hg,Nat.le_refl _,by unfold maxLen;omega,rfl,rfl⟩⟩
end Go.Proofs.YtjnpcddbgfmpcaaGreatDoor
namespace Go.Proofs.YtjnpcddbgfmpcaaGreatDoor
open Go.Proofs.Tryz
open Go Go.ChangeShapes Go.WideShapes Go.ChangeAt Go.RowKit Go.Joins
open Go.Proofs.YtjnpcddbgfmpcaaGreatDoor.Ft (V3 vV okV ValsAt inlineB legalB packF codeF typedF allF)
theorem YC (t x:Int):(packF t x).1=((UInt8.ofNat (packF t x).1.toNat).toNat:Int):=by
 have:=JR t x
 rw[UInt8.toNat_ofNat'];omega
theorem QY {most x:Int} {s:St} {ty wd vn:Int} (hi:inlineB ty=true):zX most x s (ty,wd,vn)=jW most x (kY vn x) s:=by simp[zX,hi]
theorem V1 {B:Nat} {w:World} {p:Nat} {o:Option Nat} {most:Int} (s:St) (x:Int) (v:V3) (hx:isW x=true) (h:kU B w p o s.1 most s.2) (hB:B≤w.heap.size) (hl:(s.1.length:Int)≤most) (hm1:most≤1048576) (hok:okV v) :
 Calls prog 120 #[.agg #[jF p,.int .i64 x],vV v] w fun r w'=>r=.returned (.tuple #[])∧jZ B w w' p o most (zX most x s v):=by
 obtain⟨ty,wd,vn⟩:=v
 obtain⟨n0,n1⟩:=hok
 simp only at n0 n1
 show Calls prog 120 #[.agg #[jF p,.int .i64 x],.agg #[.int .i64 ty,.int .i64 wd,.int .u64 vn]] w _
 have HB:=zh h
 have HX:=zh hx
 have hs0:s.1.length≤1048576:=by omega
 have hwl:IntKind.u64.wrap (s.1.length:Int)=(s.1.length:Int):=by simp[IntKind.wrap,IntKind.bits,IntKind.signed];omega
 clear h hx
 go_enter func120,ntmps120
 go_wp2_with fail
 have hg0:jA w ((w.alloc (.cells #[jF p,.int .i64 x] 156)).alloc (.cells #[.int .i64 ty,.int .i64 wd,.int .u64 vn] 65)):=((jA.refl w).alloc _).alloc _
 have hr0:((w.alloc (.cells #[jF p,.int .i64 x] 156)).alloc (.cells #[.int .i64 ty,.int .i64 wd,.int .u64 vn] 65)).heap[w.heap.size]? = some (.cells #[jF p,.int .i64 x] 156):=((jA.refl _).alloc _).heap (heap_alloc_new w _)
 have hr1:((w.alloc (.cells #[jF p,.int .i64 x] 156)).alloc (.cells #[.int .i64 ty,.int .i64 wd,.int .u64 vn] 65)).heap[w.heap.size+1]? = some (.cells #[.int .i64 ty,.int .i64 wd,.int .u64 vn] 65):=by
  have h:=heap_alloc_new (w.alloc (.cells #[jF p,.int .i64 x] 156)) (.cells #[.int .i64 ty,.int .i64 wd,.int .u64 vn] 65)
  simpa using h
 generalize ((w.alloc (.cells #[jF p,.int .i64 x] 156)).alloc (.cells #[.int .i64 ty,.int .i64 wd,.int .u64 vn] 65))=w1 at *
 have c0:=jK hr0 0 _ rfl
 have c1:=jK hr0 1 _ rfl
 have d0:=jK hr1 0 _ rfl
 have d2:=jK hr1 2 _ rfl
 have HG1:=zh hg0
 have HB1:=zh (HB.out.grew hg0)
 clear hr0 hr1 hg0
 refine k8 jA [[],[0],[1],[2],[],[4],[3,5],[6]] [[(8,2),(9,3),(10,4),(11,5),(12,6),(4,7)],[(6,0),(9,3),(10,4),(11,5),(12,6),(4,7)],[(6,0),(7,1),(10,4),(11,5),(12,6),(4,7)],[(6,0),(7,1),(8,2),(10,4),(11,5),(4,7)],[(6,0),(7,1),(8,2),(9,3),(12,6),(4,7)],[(6,0),(7,1),(8,2),(9,3),(10,4),(4,7)],[(6,0),(7,1),(8,2),(9,3),(10,4),(11,5)],[(6,0),(7,1),(8,2),(9,3),(10,4),(11,5),(12,6)]] [(6,0),(7,1),(8,2),(9,3),(10,4),(11,5),(12,6),(4,7)]
  [Is (.pointer (some ⟨w.heap.size,0,none⟩)),Is (jF p),Is (.int .i64 (s.1.length:Int)),Is (.int .u64 (s.1.length:Int)),Is (.pointer (some ⟨w.heap.size+1,2,none⟩)),Is (.int .u64 vn),Is (.int .u64 (IntKind.u64.wrap ((s.1.length:Int) - vn))),Is (.int .u64 (IntKind.u64.wrap ((s.1.length:Int) - vn)))]
  zk jA.trans jA.refl (jA.refl _).drew zk ⟨jS,jS,jS,jS,jS,jS,jS,jS,trivial⟩ ⟨?_,?_,?_,?_,?_,?_,?_,?_,trivial⟩ rfl ?_
 ·exact zst
 ·intro y w2 hG hD K hK
  have dc0:=hG.cell c0
  have dd2:=hG.cell d2
  exact zsr
 ·intro y w2 hG hD K hK
  simp only[zD,zq4,zq5,Is,and_true] at hD
  simp only[jB,Act.put,zq1,zq2,zq3,zq4,zq5,Is] at hK⊢
  simp only[hD] at hK⊢
  clear hD
  refine jL ?_
  go_simp
  refine (yY (HB1.out.grew hG)).mono ?_
  rintro r w3 ⟨rfl,rfl⟩
  exact hK _ _ _ rfl (jA.refl _) rfl
 ·exact zst
 ·exact zst
 ·intro y w2 hG hD K hK
  have dc0:=hG.cell c0
  have dd2:=hG.cell d2
  exact zsr
 ·exact zst
 ·exact zst
 ·intro y w2 hG hF
  simp only[yV,Is,and_true,Nat.reduceAdd] at hF
  have h0:=hF.1
  have h1:=hF.2.1
  have h2:=hF.2.2.1
  have h3:=hF.2.2.2.1
  have h4:=hF.2.2.2.2.1
  have h5:=hF.2.2.2.2.2.1
  have h6:=hF.2.2.2.2.2.2.1
  have h7:=hF.2.2.2.2.2.2.2
  clear hF
  simp only[jB,Act.put,zq1,zq2,zq3,zq4,zq5,Is]
  rw[h0,h1,h2,h3,h4,h5,h6,h7]
  clear h0 h1 h2 h3 h4 h5 h6 h7
  replace c0:=hG.cell c0
  replace c1:=hG.cell c1
  replace d0:=hG.cell d0
  replace d2:=hG.cell d2
  have HG2:=zh (HG1.out.trans hG)
  clear hG
  go_wp2_with fail
  refine (Ft.inline_any ty _).mono ?_
  rintro r w3 ⟨rfl,hg⟩
  replace c0:=hg.cell c0
  replace c1:=hg.cell c1
  replace d2:=hg.cell d2
  have HG3:=zh (HG2.out.trans hg)
  clear hg d0
  by_cases hi:inlineB ty=true
  ·rw[hi]
   rcases kJ HX.out with rfl|rfl|rfl|rfl
   ·have hlw:IntKind.u64.wrap (vn*72057594037927936) / 72057594037927936=kY vn 1:=by unfold kY;simp[IntKind.wrap,IntKind.bits,IntKind.signed];omega
    have HEL:Hid (zX most 1 s (ty,wd,vn)=jW most 1 (kY vn 1) s):=by show _=_;rw[QY hi]
    have hlr:=KW (n:=vn) (x:=1) n0 n1
    go_wp2_with fail
    refine (yT s 1 (kY vn 1) (HB.out.grew HG3.out) (Nat.le_trans hB HG3.out.size) hl hm1 hlr.1 hlr.2).mono ?_
    rintro r w5 ⟨rfl,ht⟩
    have HT:=zh (jZ.after HG3.out ht)
    clear ht
    go_wp2
    go_end0
    exact⟨rfl,by rw[HEL.out];exact HT.out⟩
   ·have hlw:IntKind.u64.wrap (vn*281474976710656) / 281474976710656=kY vn 2:=by unfold kY;simp[IntKind.wrap,IntKind.bits,IntKind.signed];omega
    have HEL:Hid (zX most 2 s (ty,wd,vn)=jW most 2 (kY vn 2) s):=by show _=_;rw[QY hi]
    have hlr:=KW (n:=vn) (x:=2) n0 n1
    go_wp2_with fail
    refine (yT s 2 (kY vn 2) (HB.out.grew HG3.out) (Nat.le_trans hB HG3.out.size) hl hm1 hlr.1 hlr.2).mono ?_
    rintro r w5 ⟨rfl,ht⟩
    have HT:=zh (jZ.after HG3.out ht)
    clear ht
    go_wp2
    go_end0
    exact⟨rfl,by rw[HEL.out];exact HT.out⟩
   ·have hlw:IntKind.u64.wrap (vn*4294967296) / 4294967296=kY vn 4:=by unfold kY;simp[IntKind.wrap,IntKind.bits,IntKind.signed];omega
    have HEL:Hid (zX most 4 s (ty,wd,vn)=jW most 4 (kY vn 4) s):=by show _=_;rw[QY hi]
    have hlr:=KW (n:=vn) (x:=4) n0 n1
    go_wp2_with fail
    refine (yT s 4 (kY vn 4) (HB.out.grew HG3.out) (Nat.le_trans hB HG3.out.size) hl hm1 hlr.1 hlr.2).mono ?_
    rintro r w5 ⟨rfl,ht⟩
    have HT:=zh (jZ.after HG3.out ht)
    clear ht
    go_wp2
    go_end0
    exact⟨rfl,by rw[HEL.out];exact HT.out⟩
   ·have hlw:kY vn 8=vn:=by unfold kY;rw[Int.emod_eq_of_lt n0 (by simp;omega)]
    have HEL:Hid (zX most 8 s (ty,wd,vn)=jW most 8 (vn) s):=by show _=_;rw[QY hi];rw[hlw]
    have hlr:=KW (n:=vn) (x:=8) n0 n1
    go_wp2_with fail
    refine (yT s 8 (vn) (HB.out.grew HG3.out) (Nat.le_trans hB HG3.out.size) hl hm1 n0 n1).mono ?_
    rintro r w5 ⟨rfl,ht⟩
    have HT:=zh (jZ.after HG3.out ht)
    clear ht
    go_wp2
    go_end0
    exact⟨rfl,by rw[HEL.out];exact HT.out⟩
  ·have hi':inlineB ty=false:=by simpa using hi
   rw[hi']
   go_wp2_with fail
   refine (yT s x (IntKind.u64.wrap ((s.1.length:Int) - vn)) (HB.out.grew HG3.out) (Nat.le_trans hB HG3.out.size) hl hm1 (iE _) (iF _)).mono ?_
   rintro r w5 ⟨rfl,ht⟩
   have HEL:Hid (zX most x s (ty,wd,vn)=jW most x (IntKind.u64.wrap ((s.1.length:Int) - vn)) s):=by show _=_;simp[zX,hi']
   have HT:=zh (jZ.after HG3.out ht)
   clear ht
   go_wp2
   go_end0
   exact⟨rfl,by rw[HEL.out];exact HT.out⟩
theorem r8 {B:Nat} {w:World} {p:Nat} {o:Option Nat} {most:Int} (s:St) (x:Int) (v:V3) (h:kU B w p o s.1 most s.2) (hB:B≤w.heap.size) (hl:(s.1.length:Int)≤most) (hm1:most≤1048576) :
 Calls prog 121 #[.agg #[jF p,.int .i64 x],vV v] w fun r w'=>r=.returned (.tuple #[])∧jZ B w w' p o most (fP most x s v):=by
 obtain⟨ty,wd,vn⟩:=v
 show Calls prog 121 #[.agg #[jF p,.int .i64 x],.agg #[.int .i64 ty,.int .i64 wd,.int .u64 vn]] w _
 have HB:=zh h
 clear h
 go_enter func121,ntmps121
 go_wp2_with fail
 have hg0:jA w ((w.alloc (.cells #[jF p,.int .i64 x] 156)).alloc (.cells #[.int .i64 ty,.int .i64 wd,.int .u64 vn] 65)):=((jA.refl w).alloc _).alloc _
 have hr0:((w.alloc (.cells #[jF p,.int .i64 x] 156)).alloc (.cells #[.int .i64 ty,.int .i64 wd,.int .u64 vn] 65)).heap[w.heap.size]? = some (.cells #[jF p,.int .i64 x] 156):=((jA.refl _).alloc _).heap (heap_alloc_new w _)
 have hr1:((w.alloc (.cells #[jF p,.int .i64 x] 156)).alloc (.cells #[.int .i64 ty,.int .i64 wd,.int .u64 vn] 65)).heap[w.heap.size+1]? = some (.cells #[.int .i64 ty,.int .i64 wd,.int .u64 vn] 65):=by
  have h:=heap_alloc_new (w.alloc (.cells #[jF p,.int .i64 x] 156)) (.cells #[.int .i64 ty,.int .i64 wd,.int .u64 vn] 65)
  simpa using h
 generalize ((w.alloc (.cells #[jF p,.int .i64 x] 156)).alloc (.cells #[.int .i64 ty,.int .i64 wd,.int .u64 vn] 65))=w1 at *
 refine (Ft.inline_any ty _).mono ?_
 rintro r w3 ⟨rfl,hg⟩
 have c0:=jK (hg.heap hr0) 0 _ rfl
 have c1:=jK (hg.heap hr0) 1 _ rfl
 have d0:=jK (hg.heap hr1) 0 _ rfl
 have d1:=jK (hg.heap hr1) 1 _ rfl
 have HG3:=zh (hg0.trans hg)
 clear hg hr0 hr1 hg0
 obtain⟨y,hy⟩:∃y,(if inlineB ty then x else wd)=y:=⟨_,rfl⟩
 have HTB:Hid (qC x (ty,wd,vn)=UInt8.ofNat (packF ty y).1.toNat):=by show _=_;rw[← hy];rfl
 have HY:=zh hy
 clear hy
 cases hi:inlineB ty
 ·have hy:=HY.out
  rw[hi] at hy
  simp at hy
  subst hy
  clear HY
  go_wp2_with fail
  refine (Ft.pack_any ty wd _).mono ?_
  rintro r w2 ⟨rfl,hg⟩
  have HG2:=zh (HG3.out.trans hg)
  replace c0:=hg.cell c0
  have hpk:=JR ty wd
  have hb8:=YC ty wd
  generalize packF ty wd=pk at *
  clear hg c1 d0 d1 hpk
  have hst:=yK (QO w2 pk.1 (UInt8.ofNat pk.1.toNat) hb8)
  clear hb8
  go_wp2_with fail
  refine (QP s ⟨#[UInt8.ofNat pk.1.toNat]⟩ _ (by simp) (HB.out.grew (HG2.out.alloc _)) (Nat.le_trans hB (HG2.out.alloc _).size) hl hm1 (show (1:Nat)+0≤1073741824 by decide)).mono ?_
  rintro r w5 ⟨rfl,ht⟩
  have HT:=zh (jZ.after (HG2.out.alloc _) ht)
  clear ht hst
  go_wp2
  go_end0
  refine⟨rfl,?_⟩
  show jZ _ _ _ _ _ _ (kA most (jP [⟨#[qC x (ty,wd,vn)]⟩]) s)
  rw[HTB.out]
  exact HT.out
 ·have hy:=HY.out
  rw[hi] at hy
  simp at hy
  subst hy
  clear HY
  go_wp2_with fail
  refine (Ft.pack_any ty x _).mono ?_
  rintro r w2 ⟨rfl,hg⟩
  have HG2:=zh (HG3.out.trans hg)
  replace c0:=hg.cell c0
  have hpk:=JR ty x
  have hb8:=YC ty x
  generalize packF ty x=pk at *
  clear hg c1 d0 d1 hpk
  have hst:=yK (QO w2 pk.1 (UInt8.ofNat pk.1.toNat) hb8)
  clear hb8
  go_wp2_with fail
  refine (QP s ⟨#[UInt8.ofNat pk.1.toNat]⟩ _ (by simp) (HB.out.grew (HG2.out.alloc _)) (Nat.le_trans hB (HG2.out.alloc _).size) hl hm1 (show (1:Nat)+0≤1073741824 by decide)).mono ?_
  rintro r w5 ⟨rfl,ht⟩
  have HT:=zh (jZ.after (HG2.out.alloc _) ht)
  clear ht hst
  go_wp2
  go_end0
  refine⟨rfl,?_⟩
  show jZ _ _ _ _ _ _ (kA most (jP [⟨#[qC x (ty,wd,vn)]⟩]) s)
  rw[HTB.out]
  exact HT.out
def yX (k:V3) (l:List V3):Int:=if k.1=14 then (if isW k.2.1 then zA jY 0 l else 2) else 60
theorem r9:inlineB 14=false:=by decide
theorem iK {v:V3} (h:legalB v.1=false):jY v=20:=by unfold jY;rw[if_neg (by rw[h];decide)]
theorem d9 {v:V3} (h:legalB v.1=true) (hi:inlineB v.1=true):jY v=0:=by unfold jY;rw[if_pos h,if_pos hi]
theorem eA {v:V3} (h:legalB v.1=true) (hi:inlineB v.1=false):jY v=if isW v.2.1 then 0 else 2:=by unfold jY;rw[if_pos h,if_neg (by rw[hi];decide)]
theorem pA (k:V3) (lv:Value) (l:List V3) (w:World) (hv:ValsAt w lv l) (kQ:∀c,lv=.slice none 0 c→c=0) (j8:l.length≤1048575) :
 Calls prog 118 #[vV k,lv] w fun r w'=>r=.returned (.int .i64 (yX k l))∧jA w w':=by
 have HV:=zh hv
 have HN:=zh kQ
 obtain⟨k0,k1,k2⟩:=k
 obtain⟨la,lc,rfl,j2⟩:=hv
 clear j2 kQ
 show Calls prog 118 #[.agg #[.int .i64 k0,.int .i64 k1,.int .u64 k2],.slice la l.length lc] w _
 by_cases hk:k0=14
 ·subst hk
  have HE:Hid (yX (14,k1,k2) l=if isW k1 then zA jY 0 l else 2):=by show _=_;unfold yX;rw[if_pos rfl]
  go_enter func118,ntmps118
  have hG2:jA w ((w.alloc (.cells #[.int .i64 14,.int .i64 k1,.int .u64 k2] 65)).alloc (.cells #[.int .i64 14,.int .i64 k1,.int .u64 k2] 65)):=((jA.refl w).alloc _).alloc _
  have hR2:=heap_alloc_new (w.alloc (.cells #[.int .i64 14,.int .i64 k1,.int .u64 k2] 65)) (.cells #[.int .i64 14,.int .i64 k1,.int .u64 k2] 65)
  have hR3:((w.alloc (.cells #[.int .i64 14,.int .i64 k1,.int .u64 k2] 65)).alloc (.cells #[.int .i64 14,.int .i64 k1,.int .u64 k2] 65)).heap[w.heap.size+1]? = some (YI (14,k1,k2)):=by simpa using hR2
  have HO2:Hid (jO ((w.alloc (.cells #[.int .i64 14,.int .i64 k1,.int .u64 k2] 65)).alloc (.cells #[.int .i64 14,.int .i64 k1,.int .u64 k2] 65)) w.heap.size (.slice (some ⟨w.heap.size+1,0,none⟩) 1 1) [(14,k1,k2)]):=mQ (Nat.le_succ _) hR3
  have HG2:=zh hG2
  have HV2:=zh (HV.out.grew hG2)
  clear hG2 hR2 hR3
  go_wp2_with (at_builtin;refine zT rfl _ _ rfl w.heap.size (.slice (some ⟨w.heap.size+1,0,none⟩) 1 1) [(14,k1,k2)] rfl HO2.out _ l rfl HV2.out HN.out (by simp;omega) (by simp;omega) ?_;intro v' w3 j3 hgr hqq;obtain⟨va2,vc2,rfl,_⟩:=kD j3;have HG3:=zh (ZU HO2.out HG2.out hgr);have HW3:=zh j3.vals;clear j3 hgr hqq)
  go_loopw [17] (fun i wr=>∃j:Nat,j≤l.length+1∧i=.int .i64 j∧Hid (jA w wr∧jA w3 wr∧(1≤j→isW k1=true)∧zA jY 0 (l.take (j - 1))=0)) (fun i _=>l.length+1 - (intOf i).toNat)
  case atStart=>exact⟨0,Nat.zero_le _,rfl,by
   show _∧_∧_∧_
   exact⟨HG3.out,jA.refl _,fun h=>by omega,rfl⟩⟩
  case round=>
   obtain⟨j,hj,rfl,HW⟩:=hrel
   have HGW:=zh HW.out.1
   have HG3W:=zh HW.out.2.1
   have HKW:=zh HW.out.2.2.1
   have HEA:=zh HW.out.2.2.2
   clear HW
   by_cases hlt:j < l.length+1
   ·obtain⟨va',vc',ev,hc⟩:=HW3.out
    cases ev
    have hji:(j:Int) < l.length+1:=by omega
    by_cases hj0:j=0
    ·have hjb:(j:Int)≤0:=by omega
     have hdb:decide (0 < (j:Int))=false:=by simp;omega
     obtain⟨b,off,rfl,d0,d1,d2⟩:=hc j (14,k1,k2) (by rw[hj0];rfl)
     replace d0:=HG3W.out.cell d0
     replace d1:=HG3W.out.cell d1
     replace d2:=HG3W.out.cell d2
     simp only at d0 d1 d2
     clear hc
     have HJ:=zh hj0
     clear hj0
     by_cases hw:isW k1=true
     ·have HWK:=zh hw
      go_wp2_with fail
      refine (KD k1 _ hw).mono ?_
      rintro r w4 ⟨⟨c,rfl⟩,rfl⟩
      clear hw
      go_wp2_with fail
      refine (Ft.inline_any 14 _).mono ?_
      rw[r9]
      rintro r w4 ⟨rfl,hg⟩
      have HGG:=zh (((jA.refl _).alloc _).trans hg)
      clear hg
      go_wp2
      go_roundw
      case rel=>
       refine⟨j+1,by omega,by go_num,?_⟩
       show _∧_∧_∧_
       exact⟨HGW.out.trans HGG.out,HG3W.out.trans HGG.out,fun _=>HWK.out,by have:=HJ.out;subst this;simpa using HEA.out⟩
      case measure=>simp[intOf];omega
     ·have hw':isW k1=false:=by simpa using hw
      go_wp2_with fail
      refine (YA k1 _ hw').mono ?_
      rintro r w4 ⟨⟨c,rfl⟩,rfl⟩
      go_wp2_with fail
      refine (Ft.inline_any 14 _).mono ?_
      rw[r9]
      rintro r w4 ⟨rfl,hg⟩
      have HGG:=zh (((jA.refl _).alloc _).trans hg)
      clear hg
      go_wp2
      go_ret
      exact⟨by rw[HE.out];rw[if_neg hw];rfl,HGW.out.trans HGG.out⟩
    ·obtain⟨q,rfl⟩:∃q,j=q+1:=⟨j - 1,by omega⟩
     have hq:q < l.length:=by omega
     have hjb:0 < ((q+1:Nat):Int):=by omega
     obtain⟨u,hu⟩:∃u,l[q]? = some u:=⟨_,List.getElem?_eq_getElem hq⟩
     obtain⟨b,off,rfl,d0,d1,d2⟩:=hc (q+1) u (by simpa using hu)
     replace d0:=HG3W.out.cell d0
     replace d1:=HG3W.out.cell d1
     replace d2:=HG3W.out.cell d2
     have HSN:Hid (zA jY 0 (l.take (q+1))=jY u):=by
      have h:=KZ jY 0 l q hq (by simpa using HEA.out)
      rw[show l[q]=u from (List.getElem?_eq_some_iff.1 hu).2] at h
      exact h
     have HBD:Hid (jY u≠0→zA jY 0 l=jY u):=by
      show _→_
      intro h
      rw[KY jY 0 l (q+1) (by rw[HSN.out];exact h)]
      exact HSN.out
     obtain⟨ty,wd,vn⟩:=u
     simp only at d0 d1 d2
     clear hc hu
     generalize hjj:q+1=j at *
     have hjl:j≤l.length+1:=by omega
     have HJJ:=zh hjj
     clear hjj hj0
     have HWK:=zh (HKW.out (by have:=HJJ.out;omega))
     go_wp2_with fail
     have hcell0:True:=trivial
     by_cases hw:isW wd=true
     ·refine (KD wd _ hw).mono ?_
      rintro r w4 ⟨⟨c,rfl⟩,rfl⟩
      go_wp2_with fail
      refine (Ft.legal_any ty _).mono ?_
      cases hlb:legalB ty
      ·rintro r w5 ⟨rfl,hg5⟩
       have HGG:=zh (((jA.refl _).alloc _).trans hg5)
       have hle:=iK (v:=(ty,wd,vn)) hlb
       have HLE:=zh hle
       clear hg5 hle
       go_wp2
       go_ret
       exact⟨by rw[HE.out,if_pos HWK.out,HBD.out (by rw[HLE.out];decide),HLE.out];rfl,HGW.out.trans HGG.out⟩
      ·rintro r w5 ⟨rfl,hg5⟩
       have ct:w5.cell? ⟨wr.heap.size,0,none⟩=some (.int .i64 ty):=hg5.cell (by go_simp)
       have HG5:=zh (((jA.refl _).alloc _).trans hg5)
       clear hg5
       go_wp2_with fail
       refine (Ft.inline_any ty _).mono ?_
       cases hi:inlineB ty
       ·rintro r w6 ⟨rfl,hg6⟩
        have HGG:=zh (HG5.out.trans hg6)
        have hle:=eA (v:=(ty,wd,vn)) hlb hi
        rw[if_pos hw] at hle
        have HLE:=zh hle
        clear hg6 hle ct
        go_wp2
        go_roundw
        case rel=>
         refine⟨j+1,by omega,by go_num,?_⟩
         show _∧_∧_∧_
         exact⟨HGW.out.trans HGG.out,HG3W.out.trans HGG.out,fun _=>HWK.out,by rw[Nat.add_sub_cancel];first | (rw[HSN.out];exact HLE.out) | (rw[HJJ.out,HSN.out];exact HLE.out)⟩
        case measure=>simp[intOf];omega
       ·rintro r w6 ⟨rfl,hg6⟩
        have HGG:=zh (HG5.out.trans hg6)
        have HLE:=zh (d9 (v:=(ty,wd,vn)) hlb hi)
        clear hg6 ct
        go_wp2
        go_roundw
        case rel=>
         refine⟨j+1,by omega,by go_num,?_⟩
         show _∧_∧_∧_
         exact⟨HGW.out.trans HGG.out,HG3W.out.trans HGG.out,fun _=>HWK.out,by rw[Nat.add_sub_cancel];first | (rw[HSN.out];exact HLE.out) | (rw[HJJ.out,HSN.out];exact HLE.out)⟩
        case measure=>simp[intOf];omega
     ·have hw':isW wd=false:=by simpa using hw
      refine (YA wd _ hw').mono ?_
      rintro r w4 ⟨⟨c,rfl⟩,rfl⟩
      go_wp2_with fail
      refine (Ft.legal_any ty _).mono ?_
      cases hlb:legalB ty
      ·rintro r w5 ⟨rfl,hg5⟩
       have HGG:=zh (((jA.refl _).alloc _).trans hg5)
       have hle:=iK (v:=(ty,wd,vn)) hlb
       have HLE:=zh hle
       clear hg5 hle
       go_wp2
       go_ret
       exact⟨by rw[HE.out,if_pos HWK.out,HBD.out (by rw[HLE.out];decide),HLE.out];rfl,HGW.out.trans HGG.out⟩
      ·rintro r w5 ⟨rfl,hg5⟩
       have ct:w5.cell? ⟨wr.heap.size,0,none⟩=some (.int .i64 ty):=hg5.cell (by go_simp)
       have HG5:=zh (((jA.refl _).alloc _).trans hg5)
       clear hg5
       go_wp2_with fail
       refine (Ft.inline_any ty _).mono ?_
       cases hi:inlineB ty
       ·rintro r w6 ⟨rfl,hg6⟩
        have HGG:=zh (HG5.out.trans hg6)
        have hle:=eA (v:=(ty,wd,vn)) hlb hi
        rw[if_neg hw] at hle
        have HLE:=zh hle
        clear hg6 hle ct
        go_wp2
        go_ret
        exact⟨by rw[HE.out,if_pos HWK.out,HBD.out (by rw[HLE.out];decide),HLE.out];rfl,HGW.out.trans HGG.out⟩
       ·rintro r w6 ⟨rfl,hg6⟩
        have HGG:=zh (HG5.out.trans hg6)
        have HLE:=zh (d9 (v:=(ty,wd,vn)) hlb hi)
        clear hg6 ct
        go_wp2
        go_roundw
        case rel=>
         refine⟨j+1,by omega,by go_num,?_⟩
         show _∧_∧_∧_
         exact⟨HGW.out.trans HGG.out,HG3W.out.trans HGG.out,fun _=>HWK.out,by rw[Nat.add_sub_cancel];first | (rw[HSN.out];exact HLE.out) | (rw[HJJ.out,HSN.out];exact HLE.out)⟩
        case measure=>simp[intOf];omega
   ·have ej:j=l.length+1:=by omega
    have hz:zA jY 0 l=0:=by
     have:=HEA.out
     rw[ej,Nat.add_sub_cancel,List.take_length] at this
     exact this
    have HZ:Hid (yX (14,k1,k2) l=0):=by show _=_;rw[HE.out,if_pos (HKW.out (by omega)),hz]
    clear hz
    go_wp2
    go_ret
    exact⟨by rw[HZ.out];rfl,HGW.out⟩
 ·have HE:Hid (yX (k0,k1,k2) l=60):=by show _=_;unfold yX;rw[if_neg hk]
  go_enter func118,ntmps118
  go_wp2
  go_ret
  exact⟨by rw[HE.out];rfl,(jA.refl w).alloc _⟩
def qF (most x:Int) (k:V3) (n:Nat) (s:St):St:=jW most x n (jW most x k.2.1 (zX most x (jG most x s) k))
def y3 (most:Int) (k:V3) (l:List V3) (s:St):(V3 × Int) × St:=
 if yX k l≠0 then (((0,0,0),yX k l),s) else
 let x:=allF l k s.1.length 3
 if x=0 then (((0,0,0),211),s) else
 let s6:=kP most x l (jU most x l (qF most x k l.length s))
 if s6.2≠0 then (((0,0,0),s6.2),s6) else (((9,x,((qF most x k l.length s).1.length:Int)),0),s6)
theorem pB {l:List V3} {k:V3} {a b:Int} (h:allF l k a b≠0):isW (allF l k a b)=true:=KJ h
def VL (B:Nat) (w:World) (p:Nat) (o:Option Nat) (most:Int) (lv:Value) (l:List V3) (nR nK nX:Nat) (x:Int) (k:V3) (s:St) (o':Option Nat) (wn:World):Prop:=
 kU B wn p o' s.1 most s.2∧zO w o o'∧Moved (qH p o) w wn∧(∀b,(b=nR∨b=nK∨b=nX∨∃ad n c,lv=.slice (some ad) n c∧ad.block=b)→b < wn.heap.size∧¬qH p o' b)∧ValsAt wn lv l ∧
  wn.heap[nR]? = some (YI (0,0,0))∧wn.heap[nK]? = some (YI k)∧wn.heap[nX]? = some (.cells #[jF p,.int .i64 x] 156 (0,0))
section
variable {B:Nat} {w:World} {p:Nat} {o:Option Nat} {most:Int} {lv:Value} {l:List V3} {nR nK nX:Nat} {x:Int} {k:V3} {s s':St} {o':Option Nat} {wn wm:World}
theorem VL.step (h:VL B w p o most lv l nR nK nX x k s o' wn) (ht:jZ B wn wm p o' most s'):∃o2,VL B w p o most lv l nR nK nX x k s' o2 wm:=by
 obtain⟨hb,hn,hm,hk,hv,hr,hkk,hx⟩:=h
 obtain⟨o2,b2,n2,m2⟩:=ht
 have kR:=(hk nR (.inl rfl)).2
 have kK:=(hk nK (.inr (.inl rfl))).2
 have kX:=(hk nX (.inr (.inr (.inl rfl)))).2
 refine⟨o2,b2,hn.trans n2 hm.size,hm.own hn m2,fun b hb=>?_,JS hv m2 fun ad n c e=>(hk _ (.inr (.inr (.inr ⟨ad,n,c,e,rfl⟩)))).2,m2.heap hr kR,m2.heap hkk kK,m2.heap hx kX⟩
 have h1:=hk b hb
 refine⟨Nat.lt_of_lt_of_le h1.1 m2.size,?_⟩
 rintro (e|e)
 ·exact h1.2 (.inl e)
 ·rcases n2 b e.symm with e2|e2
  ·exact h1.2 (.inr e2.symm)
  ·omega
theorem VL.turnSet (h:VL B w p o most lv l nR nK nX x k s o' wn) (hge:w.heap.size≤nR) (v0 v1 v2:Value):jZ B w (((wn.setCell ⟨nR,0,none⟩ v0).setCell ⟨nR,1,none⟩ v1).setCell ⟨nR,2,none⟩ v2) p o most s:=by
 obtain⟨hb,hn,hm,hk,_⟩:=h
 have kR:=(hk nR (.inl rfl)).2
 have m:Moved (fun k=>k=nR) wn (((wn.setCell ⟨nR,0,none⟩ v0).setCell ⟨nR,1,none⟩ v1).setCell ⟨nR,2,none⟩ v2):=
  Moved.setCell (S:=fun k=>k=nR) (p:=⟨nR,2,none⟩) (Moved.setCell (S:=fun k=>k=nR) (p:=⟨nR,1,none⟩) (Moved.setCell (S:=fun k=>k=nR) (p:=⟨nR,0,none⟩) (Moved.refl _ wn) (fun _=>rfl) v0) (fun _=>rfl) v1) (fun _=>rfl) v2
 refine⟨o',hb.kept m (fun e=>kR (.inl e.symm)) (fun k e e2=>kR (.inr (by rw[e,e2]))),hn,hm.trans m fun j hj e=>by omega⟩
end
theorem fS {k:V3} {l:List V3} (h:yX k l=0):isW k.2.1=true:=by
 unfold yX at h
 split at h
 ·split at h
  ·assumption
  ·cases h
 ·cases h
theorem put_map {B:Nat} {w:World} {p:Nat} {o:Option Nat} {most:Int} (s:St) (k:V3) (lv:Value) (l:List V3) (h:kU B w p o s.1 most s.2) (hB:B≤w.heap.size) (hl:(s.1.length:Int)≤most) (hm1:most≤1048576)
 (hv:ValsAt w lv l) (kQ:∀c,lv=.slice none 0 c→c=0) (j8:l.length≤1048575) (hok:∀v∈l,okV v) (hkk:okV k) (hap:∀ad n c,lv=.slice (some ad) n c→ad.block < w.heap.size∧¬qH p o ad.block) (hs:s.2=0) :
 Calls prog 82 #[jF p,vV k,lv] w fun r w'=>r=.returned (zS (y3 most k l s).1)∧jZ B w w' p o most (y3 most k l s).2:=by
 obtain⟨k0,k1,k2⟩:=k
 have HB0:=zh h
 have HA:=zh hap
 have HOK:=zh hok
 have HKK:=zh hkk
 have HV:=zh hv
 have HN:=zh kQ
 obtain⟨a,c,rfl,j2⟩:=hv
 show Calls prog 82 #[jF p,.agg #[.int .i64 k0,.int .i64 k1,.int .u64 k2],.slice a l.length c] w _
 generalize hP:y3 most (k0,k1,k2) l s=P
 have HPP:=zh hP
 clear h hap hok j2 hkk kQ hP
 go_enter func82,ntmps82
 go_wp2_with fail
 have hg0:jA w ((w.alloc (YI (k0,k1,k2))).alloc (YI (0,0,0))):=((jA.refl w).alloc _).alloc _
 have hrK:((w.alloc (YI (k0,k1,k2))).alloc (YI (0,0,0))).heap[w.heap.size]? = some (YI (k0,k1,k2)):=((jA.refl _).alloc _).heap (heap_alloc_new w _)
 have hrR:((w.alloc (YI (k0,k1,k2))).alloc (YI (0,0,0))).heap[w.heap.size+1]? = some (YI (0,0,0)):=by
  have h:=heap_alloc_new (w.alloc (YI (k0,k1,k2))) (YI (0,0,0))
  simpa using h
 generalize ((w.alloc (YI (k0,k1,k2))).alloc (YI (0,0,0)))=w1 at *
 have HG1:=zh hg0
 have HRK:=zh hrK
 have HRR:=zh hrR
 clear hg0 hrK hrR
 refine (qB (HB0.out.grew HG1.out)).mono ?_
 rw[hs]
 rintro r w' ⟨rfl,e⟩
 rw[e]
 clear e w'
 have ck0:=jK HRK.out 0 _ rfl
 have ck1:=jK HRK.out 1 _ rfl
 have ck2:=jK HRK.out 2 _ rfl
 go_wp2_with fail
 refine (pA (k0,k1,k2) _ l _ (HV.out.grew HG1.out) HN.out j8).mono ?_
 rintro r w2 ⟨rfl,hg2⟩
 have HG2:=zh (HG1.out.trans hg2)
 have HRK2:=zh (hg2.heap HRK.out)
 have HRR2:=zh (hg2.heap HRR.out)
 clear hg2 ck0 ck1 ck2 HRK HRR HG1
 by_cases hce:yX (k0,k1,k2) l=0
 ·have HWK:=zh (fS hce)
  have HCE:=zh hce
  rw[hce]
  clear hce
  have HB2:=zh (HB0.out.grew HG2.out)
  have HV2:=zh (HV.out.grew HG2.out)
  have c0:=jK HRK2.out 0 _ rfl
  have c1:=jK HRK2.out 1 _ rfl
  have c2:=jK HRK2.out 2 _ rfl
  go_wp2_with fail
  refine k8 jA [[],[0],[],[],[1,2,3],[4]] [[(33,2),(34,3),(35,4),(10,5)],[(31,0),(33,2),(34,3),(10,5)],[(31,0),(32,1),(34,3),(10,5)],[(31,0),(32,1),(33,2),(10,5)],[(31,0),(32,1),(33,2),(34,3)],[(31,0),(32,1),(33,2),(34,3),(35,4)]] [(31,0),(32,1),(33,2),(34,3),(35,4),(10,5)]
   [Is (jF p),Is (.int .i64 (s.1.length:Int)),Is (.agg #[.int .i64 k0,.int .i64 k1,.int .u64 k2]),Is (.slice a l.length c),Is (.int .i64 (allF l (k0,k1,k2) s.1.length 3)),Is (.int .i64 (allF l (k0,k1,k2) s.1.length 3))]
   zk jA.trans jA.refl (jA.refl _).drew zk ⟨jS,jS,jS,jS,jS,jS,trivial⟩ ⟨?_,?_,?_,?_,?_,?_,trivial⟩ rfl ?_
  ·exact zst
  ·intro y w2 hG hD K hK
   simp only[zD,zq4,zq5,Is,and_true] at hD
   simp only[jB,Act.put,zq1,zq2,zq3,zq4,zq5,Is] at hK⊢
   simp only[hD] at hK⊢
   clear hD
   refine jL ?_
   go_simp
   refine (yY (HB2.out.grew hG)).mono ?_
   rintro r w3 ⟨rfl,rfl⟩
   exact hK _ _ _ rfl (jA.refl _) rfl
  ·intro y w2 hG hD K hK
   have dc0:=hG.cell c0
   have dc1:=hG.cell c1
   have dc2:=hG.cell c2
   exact zsr
  ·exact zst
  ·intro y w2 hG hD K hK
   simp only[zD,zq4,zq5,Is,and_true] at hD
   simp only[jB,Act.put,zq1,zq2,zq3,zq4,zq5,Is] at hK⊢
   simp only[hD] at hK⊢
   clear hD
   refine jL ?_
   go_simp
   refine (Ft.all_any l (k0,k1,k2) _ 3 _ _ (by omega) HOK.out HKK.out (HV2.out.grew hG)).mono ?_
   rintro r w3 ⟨rfl,hg⟩
   exact hK _ _ _ rfl hg rfl
  ·exact zst
  ·intro y w2 hG hF
   simp only[yV,Is,and_true,Nat.reduceAdd] at hF
   have h0:=hF.1
   have h1:=hF.2.1
   have h2:=hF.2.2.1
   have h3:=hF.2.2.2.1
   have h4:=hF.2.2.2.2.1
   have h5:=hF.2.2.2.2.2
   clear hF
   simp only[jB,Act.put,zq1,zq2,zq3,zq4,zq5,Is]
   rw[h0,h1,h2,h3,h4,h5]
   clear h0 h1 h2 h3 h4 h5
   have HG3:=zh (HG2.out.trans hG)
   have HRK3:=zh (hG.heap HRK2.out)
   have HRR3:=zh (hG.heap HRR2.out)
   clear hG c0 c1 c2 HB2 HV2 HRK2 HRR2 HG2
   by_cases hx:allF l (k0,k1,k2) s.1.length 3=0
   ·have hF:y3 most (k0,k1,k2) l s=(((0,0,0),211),s):=by
     unfold y3
     rw[if_neg (by simpa using HCE.out)]
     simp[hx]
    have HF:=zh hF
    clear hF
    rw[hx]
    have jJ:=HRR3.out
    have f0:=jE jJ 0
    have f1:=jE jJ 1
    have f2:=jE jJ 2
    have c0:=jK jJ 0 _ rfl
    have c1:=jK jJ 1 _ rfl
    have c2:=jK jJ 2 _ rfl
    clear jJ
    go_wp2
    refine bodyPost_ret (v:=zS ((0,0,0),211)) ?_ rfl ⟨?_,?_⟩
    ·simp[results,results82,go_sem,c0,c1,c2,zS,vV]
    ·rw[← HPP.out,HF.out]
    ·rw[← HPP.out,HF.out]
     exact (jZ.refl HB0.out).grew (((HG3.out.setCell (Nat.le_succ _) _).setCell (Nat.le_succ _) _).setCell (Nat.le_succ _) _)
   ·have HX:=zh (pB hx)
    have HF:Hid (∀x,allF l (k0,k1,k2) s.1.length 3=x→x≠0→y3 most (k0,k1,k2) l s=if (kP most x l (jU most x l (qF most x (k0,k1,k2) l.length s))).2≠0 then (((0,0,0),(kP most x l (jU most x l (qF most x (k0,k1,k2) l.length s))).2),kP most x l (jU most x l (qF most x (k0,k1,k2) l.length s))) else (((9,x,((qF most x (k0,k1,k2) l.length s).1.length:Int)),0),kP most x l (jU most x l (qF most x (k0,k1,k2) l.length s)))):=by
     show ∀x,_=x→_
     intro x hx hx0
     unfold y3
     rw[if_neg (by simpa using HCE.out)]
     simp only
     rw[hx,if_neg hx0]
    replace HF:=zh (HF.out _ rfl hx)
    generalize allF l (k0,k1,k2) s.1.length 3=x at *
    have hxb:(x == 0)=false:=by simpa using hx
    go_wp2_with fail
    have hrX:=heap_alloc_new w2 (.cells #[jF p,.int .i64 x] 156)
    have hgX:=(jA.refl w2).alloc (.cells #[jF p,.int .i64 x] 156)
    have hszX:(w2.alloc (.cells #[jF p,.int .i64 x] 156)).heap.size=w2.heap.size+1:=by simp
    have M0:VL B w p o most (.slice a l.length c) l (w.heap.size+1) w.heap.size w2.heap.size x (k0,k1,k2) s o (w2.alloc (.cells #[jF p,.int .i64 x] 156)):=by
     have hb0:=HB0.out.lt
     have hs3:=HG3.out.size
     have hR:=(Array.getElem?_eq_some_iff.1 HRR3.out).1
     have hG:=HG3.out.trans hgX
     refine⟨HB0.out.grew hG,zO.refl _ _,Moved.of_grew hG,?_,HV.out.grew hG,hgX.heap HRR3.out,hgX.heap HRK3.out,hrX⟩
     rintro b (rfl|rfl|rfl|⟨ad,n,c',e,rfl⟩)
     ·exact⟨by omega,fun h=>by have:=hb0 _ h;omega⟩
     ·exact⟨by omega,fun h=>by have:=hb0 _ h;omega⟩
     ·exact⟨by omega,fun h=>by have:=hb0 _ h;omega⟩
     ·have:=HA.out ad n c' e
      exact⟨by omega,this.2⟩
    have HB3:B≤(w2.alloc (.cells #[jF p,.int .i64 x] 156)).heap.size:=by have:=HG3.out.size;omega
    have HM0:=zh M0
    generalize (w2.alloc (.cells #[jF p,.int .i64 x] 156))=v0 at *
    generalize hnX:w2.heap.size=nX at *
    clear M0 hrX hgX hszX HRK3 HRR3 HG3 hnX
    refine (vD s x HM0.out.1 HB3 hl hm1).mono ?_
    rintro r v1 ⟨rfl,ht⟩
    have HB4:B≤v1.heap.size:=by obtain⟨_,_,_,m⟩:=ht;exact Nat.le_trans HB3 m.size
    obtain⟨o1,m1⟩:=HM0.out.step ht
    have HM1:=zh m1
    have b0:=jK m1.2.2.2.2.2.2.2 0 _ rfl
    have b1:=jK m1.2.2.2.2.2.2.2 1 _ rfl
    have a0:=jK m1.2.2.2.2.2.2.1 0 _ rfl
    have a1:=jK m1.2.2.2.2.2.2.1 1 _ rfl
    have a2:=jK m1.2.2.2.2.2.2.1 2 _ rfl
    clear ht m1
    go_wp2_with fail
    refine (V1 (jG most x s) x (k0,k1,k2) HX.out HM1.out.1 HB4 (kT hl) hm1 HKK.out).mono ?_
    rintro r v2 ⟨rfl,ht⟩
    have HB5:B≤v2.heap.size:=by obtain⟨_,_,_,m⟩:=ht;exact Nat.le_trans HB4 m.size
    obtain⟨o2,m2⟩:=HM1.out.step ht
    have HM2:=zh m2
    replace b0:=jK m2.2.2.2.2.2.2.2 0 _ rfl
    replace b1:=jK m2.2.2.2.2.2.2.2 1 _ rfl
    replace a1:=jK m2.2.2.2.2.2.2.1 1 _ rfl
    clear ht m2 a0 a2
    have hk1:1≤k1∧k1≤8:=kI HWK.out
    have hk1a:=hk1.1
    have hk1b:=hk1.2
    clear hk1
    go_wp2_with fail
    refine (yT (zX most x (jG most x s) (k0,k1,k2)) x k1 HM2.out.1 HB5 (QT (kT hl)) hm1 (by omega) (by omega)).mono ?_
    rintro r v3 ⟨rfl,ht⟩
    have HB6:B≤v3.heap.size:=by obtain⟨_,_,_,m⟩:=ht;exact Nat.le_trans HB5 m.size
    obtain⟨o3,m3⟩:=HM2.out.step ht
    have HM3:=zh m3
    replace b0:=jK m3.2.2.2.2.2.2.2 0 _ rfl
    replace b1:=jK m3.2.2.2.2.2.2.2 1 _ rfl
    clear ht m3 a1
    go_wp2_with fail
    refine (yT (jW most x k1 (zX most x (jG most x s) (k0,k1,k2))) x (l.length:Int) HM3.out.1 HB6 (yA (QT (kT hl))) hm1 (by omega) (by omega)).mono ?_
    rintro r v4 ⟨rfl,ht⟩
    have HB7:B≤v4.heap.size:=by obtain⟨_,_,_,m⟩:=ht;exact Nat.le_trans HB6 m.size
    obtain⟨o4,m4⟩:=HM3.out.step ht
    have HM4:Hid (VL B w p o most (.slice a l.length c) l (w.heap.size+1) w.heap.size nX x (k0,k1,k2) (qF most x (k0,k1,k2) l.length s) o4 v4):=m4
    replace b0:=jK m4.2.2.2.2.2.2.2 0 _ rfl
    replace b1:=jK m4.2.2.2.2.2.2.2 1 _ rfl
    have HLE:Hid (((qF most x (k0,k1,k2) l.length s).1.length:Int)≤most):=yA (yA (QT (kT hl)))
    clear ht m4 HM0 HM1 HM2 HM3 HB3 HB4 HB5 HB6
    go_wp2_with fail
    refine (yY HM4.out.1).mono ?_
    rintro r w' ⟨rfl,e⟩
    rw[e]
    clear e w'
    generalize qF most x (k0,k1,k2) l.length s=s4 at *
    have hs4:(s4.1.length:Int)≤1048576:=by have:=HLE.out;omega
    clear b0 b1
    go_wp2_with fail
    go_loopw [68] (fun i wr=>∃j:Nat,j≤l.length∧i=.int .i64 j∧Hid (∃oj,VL B w p o most (.slice a l.length c) l (w.heap.size+1) w.heap.size nX x (k0,k1,k2) (jU most x (l.take j) s4) oj wr∧B≤wr.heap.size)) (fun i _=>l.length - (intOf i).toNat)
    case atStart=>exact⟨0,Nat.zero_le _,rfl,o4,HM4.out,HB7⟩
    case round=>
     obtain⟨j,hj,rfl,HW⟩:=hrel
     by_cases hlt:j < l.length
     ·obtain⟨v,hv⟩:∃v,l[j]? = some v:=⟨_,List.getElem?_eq_getElem hlt⟩
      obtain⟨oj,mj,hBj⟩:=HW.out
      have HMJ:=zh mj
      have HBJ:=zh hBj
      have HSN:=zh (VX most x l s4 j hlt)
      have HLJ:=zh (qP (x:=x) (l.take j) HLE.out)
      have HVK:=zh (HOK.out v (List.mem_of_getElem? hv))
      have b0:=jK mj.2.2.2.2.2.2.2 0 _ rfl
      have b1:=jK mj.2.2.2.2.2.2.2 1 _ rfl
      obtain⟨a',c',ev,hc⟩:=mj.2.2.2.2.1
      cases ev
      obtain⟨bl,off,rfl,d0,d1,d2⟩:=hc j v hv
      have HVE:Hid (l[j]=v):=(List.getElem?_eq_some_iff.1 hv).2
      clear hv mj hBj hc HW
      have hji:(j:Int) < l.length:=by omega
      obtain⟨ty,wd,vn⟩:=v
      simp only at d0 d1 d2
      have hga:=(jA.refl wr).alloc (.cells #[.int .i64 ty,.int .i64 wd,.int .u64 vn] 65)
      have e0:=hga.cell b0
      have e1:=hga.cell b1
      have HGA:=zh hga
      clear hga
      go_wp2_with fail
      have hga:=HGA.out
      refine (V1 (jU most x (l.take j) s4) x (ty,wd,vn) HX.out (HMJ.out.1.grew hga) (Nat.le_trans HBJ.out hga.size) HLJ.out hm1 HVK.out).mono ?_
      rintro r wn ⟨rfl,ht⟩
      have HT:Hid (∃oj,VL B w p o most (.slice (some ⟨bl,off,none⟩) l.length c) l (w.heap.size+1) w.heap.size nX x (k0,k1,k2) (jU most x (l.take (j+1)) s4) oj wn∧B≤wn.heap.size):=by
       obtain⟨oa,ma⟩:=HMJ.out.step (jZ.after hga ht)
       show ∃oj,_∧_
       rw[HSN.out,HVE.out]
       obtain⟨_,_,_,mm⟩:=ht
       exact⟨oa,ma,Nat.le_trans HBJ.out (Nat.le_trans hga.size mm.size)⟩
      clear ht hga d0 d1 d2 b0 b1 e0 e1
      go_wp2
      go_roundw
      case rel=>exact⟨j+1,by omega,by go_num,HT.out⟩
      case measure=>simp[intOf];omega
     ·have ej:j=l.length:=by omega
      have HM5:Hid (∃oj,VL B w p o most (.slice a l.length c) l (w.heap.size+1) w.heap.size nX x (k0,k1,k2) (jU most x l s4) oj wr∧B≤wr.heap.size):=by
       have:=HW.out
       rw[ej,List.take_length] at this
       exact this
      have HLE5:=zh (qP (x:=x) l HLE.out)
      have hge:(l.length:Int)≤j:=by omega
      have hdb:decide (j < l.length)=false:=by simp;omega
      clear HW hlt ej hj
      generalize jU most x l s4=s5 at *
      go_wp2_with fail
      go_loopw [78] (fun i wr=>∃j:Nat,j≤l.length∧i=.int .i64 j∧Hid (∃oj,VL B w p o most (.slice a l.length c) l (w.heap.size+1) w.heap.size nX x (k0,k1,k2) (kP most x (l.take j) s5) oj wr∧B≤wr.heap.size)) (fun i _=>l.length - (intOf i).toNat)
      case atStart=>
       obtain⟨oj,mj,hBj⟩:=HM5.out
       exact⟨0,Nat.zero_le _,rfl,oj,mj,hBj⟩
      case round=>
       obtain⟨j,hj,rfl,HW⟩:=hrel
       by_cases hlt:j < l.length
       ·obtain⟨v,hv⟩:∃v,l[j]? = some v:=⟨_,List.getElem?_eq_getElem hlt⟩
        obtain⟨oj,mj,hBj⟩:=HW.out
        have HMJ:=zh mj
        have HBJ:=zh hBj
        have HSN:=zh (bK most x l s5 j hlt)
        have HLJ:=zh (ZS (x:=x) (l.take j) HLE5.out)
        have b0:=jK mj.2.2.2.2.2.2.2 0 _ rfl
        have b1:=jK mj.2.2.2.2.2.2.2 1 _ rfl
        obtain⟨a',c',ev,hc⟩:=mj.2.2.2.2.1
        cases ev
        obtain⟨bl,off,rfl,d0,d1,d2⟩:=hc j v hv
        have HVE:Hid (l[j]=v):=(List.getElem?_eq_some_iff.1 hv).2
        clear hv mj hBj hc HW
        have hji:(j:Int) < l.length:=by omega
        obtain⟨ty,wd,vn⟩:=v
        simp only at d0 d1 d2
        have hga:=(jA.refl wr).alloc (.cells #[.int .i64 ty,.int .i64 wd,.int .u64 vn] 65)
        have e0:=hga.cell b0
        have e1:=hga.cell b1
        have HGA:=zh hga
        clear hga
        go_wp2_with fail
        have hga:=HGA.out
        refine (r8 (kP most x (l.take j) s5) x (ty,wd,vn) (HMJ.out.1.grew hga) (Nat.le_trans HBJ.out hga.size) HLJ.out hm1).mono ?_
        rintro r wn ⟨rfl,ht⟩
        have HT:Hid (∃oj,VL B w p o most (.slice (some ⟨bl,off,none⟩) l.length c) l (w.heap.size+1) w.heap.size nX x (k0,k1,k2) (kP most x (l.take (j+1)) s5) oj wn∧B≤wn.heap.size):=by
         obtain⟨oa,ma⟩:=HMJ.out.step (jZ.after hga ht)
         show ∃oj,_∧_
         rw[HSN.out,HVE.out]
         obtain⟨_,_,_,mm⟩:=ht
         exact⟨oa,ma,Nat.le_trans HBJ.out (Nat.le_trans hga.size mm.size)⟩
        clear ht hga d0 d1 d2 b0 b1 e0 e1
        go_wp2
        go_roundw
        case rel=>exact⟨j+1,by omega,by go_num,HT.out⟩
        case measure=>simp[intOf];omega
       ·have ej:j=l.length:=by omega
        have hm6:∃oj,VL B w p o most (.slice a l.length c) l (w.heap.size+1) w.heap.size nX x (k0,k1,k2) (kP most x l s5) oj wr∧B≤wr.heap.size:=by
         have:=HW.out
         rw[ej,List.take_length] at this
         exact this
        obtain⟨o6,m6,hB6⟩:=hm6
        have HM6:=zh m6
        have b0:=jK m6.2.2.2.2.2.2.2 0 _ rfl
        have jJ:=m6.2.2.2.2.2.1
        have f0:=jE jJ 0
        have f1:=jE jJ 1
        have f2:=jE jJ 2
        have c0:=jK jJ 0 _ rfl
        have c1:=jK jJ 1 _ rfl
        have c2:=jK jJ 2 _ rfl
        have hge:(l.length:Int)≤j:=by omega
        clear HW hlt ej hj m6 jJ HM5
        go_wp2_with fail
        refine (qB HM6.out.1).mono ?_
        rintro r w' ⟨rfl,e⟩
        rw[e]
        clear e w' b0
        by_cases hz:(kP most x l s5).2=0
        ·have HF2:=zh (HF.out.trans (if_neg (by simpa using hz)))
         rw[hz]
         clear hz HF
         generalize kP most x l s5=s6 at *
         go_wp2
         refine bodyPost_ret (v:=zS ((9,x,(s4.1.length:Int)),0)) ?_ rfl ⟨?_,?_⟩
         ·simp[results,results82,go_sem,c0,c1,c2,zS,vV]
         ·rw[← HPP.out,HF2.out]
         ·rw[← HPP.out,HF2.out]
          exact HM6.out.turnSet (Nat.le_succ _) _ _ _
        ·have HF2:=zh (HF.out.trans (if_pos (by simpa using hz)))
         clear HF
         generalize kP most x l s5=s6 at *
         go_wp2
         refine bodyPost_ret (v:=zS ((0,0,0),s6.2)) ?_ rfl ⟨?_,?_⟩
         ·simp[results,results82,go_sem,c0,c1,c2,zS,vV]
         ·rw[← HPP.out,HF2.out]
         ·rw[← HPP.out,HF2.out]
          exact HM6.out.turnSet (Nat.le_succ _) _ _ _
 ·have hF:y3 most (k0,k1,k2) l s=(((0,0,0),yX (k0,k1,k2) l),s):=by
   unfold y3
   rw[if_pos hce]
  have HF:=zh hF
  clear hF
  generalize yX (k0,k1,k2) l=e at *
  have jJ:=HRR2.out
  have f0:=jE jJ 0
  have f1:=jE jJ 1
  have f2:=jE jJ 2
  have c0:=jK jJ 0 _ rfl
  have c1:=jK jJ 1 _ rfl
  have c2:=jK jJ 2 _ rfl
  clear jJ
  go_wp2
  refine bodyPost_ret (v:=zS ((0,0,0),e)) ?_ rfl ⟨?_,?_⟩
  ·simp[results,results82,go_sem,c0,c1,c2,zS,vV]
  ·rw[← HPP.out,HF.out]
  ·rw[← HPP.out,HF.out]
   exact (jZ.refl HB0.out).grew (((HG2.out.setCell (Nat.le_succ _) _).setCell (Nat.le_succ _) _).setCell (Nat.le_succ _) _)
end Go.Proofs.YtjnpcddbgfmpcaaGreatDoor
namespace Go.Proofs.YtjnpcddbgfmpcaaGreatDoor
open Go.Proofs.Tryz
open Go Go.ChangeShapes Go.WideShapes Go.ChangeAt Go.RowKit Go.Joins Go.Deep
open Go.Proofs.YtjnpcddbgfmpcaaGreatDoor.Ft (V3 vV okV ValsAt inlineB legalB packF codeF typedF allF)
def JV (S S':Nat→Prop) (w w':World):Prop:=∀k,S' k→S k∨(w.heap.size≤k∧k < w'.heap.size)
theorem JV.refl (S:Nat→Prop) (w w':World):JV S S w w':=fun _ h=>.inl h
theorem zZ {w:World} {B:Nat} {e:TypeId} {size:Nat} {v:Value} {n:Nat} {xs:List Value} {p:Nat} {cs:Array Value} {t:TypeId} {fr:Nat × Nat} (h:w.ownsRow B e size v n xs) (hp:w.heap[p]? = some (.cells cs t fr)) (hne:t≠e):v.ownBlock≠some p:=by
 rcases h.2 with ⟨rfl,_⟩|⟨g,cap,cur,rfl,_,hg,_⟩
 ·intro h;cases h
 ·intro h
  have:g=p:=by injection h
  subst this
  rw[hg] at hp
  injection hp with hp
  injection hp with _ hp _
  exact hne hp.symm
theorem Y5 {w:World} {B B':Nat} {e e':TypeId} {size size':Nat} {v v':Value} {n n':Nat} {xs xs':List Value} (h:w.ownsRow B e size v n xs) (h':w.ownsRow B' e' size' v' n' xs') (hne:e≠e') {g:Nat} (hg:v.ownBlock=some g):v'.ownBlock≠some g:=by
 rcases h.2 with ⟨rfl,_⟩|⟨g1,cap,cur,rfl,_,hg1,_⟩
 ·cases hg
 ·have:g1=g:=by injection hg
  subst this
  exact zZ h' hg1 hne
theorem JE {w:World} {B:Nat} {e:TypeId} {size:Nat} {v:Value} {n:Nat} {xs:List Value} (h:w.ownsRow B e size v n xs) {g:Nat} (hg:v.ownBlock=some g):g < w.heap.size:=by
 rcases h.2 with ⟨rfl,_⟩|⟨g1,cap,cur,rfl,_,hg1,_⟩
 ·cases hg
 ·have:g1=g:=by injection hg
  subst this
  exact (Array.getElem?_eq_some_iff.1 hg1).1
theorem pC {w:World} {B:Nat} {e:TypeId} {size:Nat} {a:Option Addr} {n c:Nat} {xs:List Value} (h:w.ownsRow B e size (.slice a n c) n xs) (k:Nat) (hk:k≤n):w.ownsRow B e size (.slice a k c) k (xs.take (k*size)):=by
 obtain⟨h1,h2⟩:=h
 refine⟨by rw[List.length_take,h1];exact Nat.min_eq_left (Nat.mul_le_mul_right _ hk),?_⟩
 rcases h2 with ⟨he,hn⟩|⟨g,cap,cur,he,hb,hg,hn,hm,hs,ht⟩
 ·injection he with e1 e2 e3
  subst e1 e3
  exact .inl ⟨by rw[show k=0 by omega],by omega⟩
 ·injection he with e1 e2 e3
  subst e1 e3
  refine .inr ⟨g,c,cur,rfl,hb,hg,by omega,hm,hs,?_⟩
  rw[← ht,List.take_take,Nat.min_eq_left (Nat.mul_le_mul_right _ hk)]
theorem YP:∀(l:List V3) (k:Nat),(kM l).take (k*3)=kM (l.take k)
 | [],k=>by simp[kM]
 | v::r,0=>by simp[kM]
 | v::r,k+1=>by
  have ih:=YP r k
  have e:kM (v::r)=ZT v++kM r:=by simp[kM]
  have e2:kM ((v::r).take (k+1))=ZT v++kM (r.take k):=by simp[kM]
  rw[e,e2,← ih,List.take_append,show (k+1)*3 - (ZT v).length=k*3 by simp[ZT];omega,List.take_of_length_le (by simp[ZT];omega)]
def qZ (w:World) (p:Nat) (S:Nat→Prop) (l:List V3):Prop:=
 S p∧∃v,w.heap[p]? = some (.cells #[v,.bool true] 111 (0,0))∧jO w 0 v l∧∀g,v.ownBlock=some g→S g
section
variable {w w':World} {p:Nat} {S S' T:Nat→Prop} {l:List V3}
theorem qZ.kept (h:qZ w p S l) (hm:Moved T w w') (hd:∀k,S k→¬T k):qZ w' p S l:=by
 obtain⟨h0,v,h1,h2,h3⟩:=h
 exact⟨h0,v,hm.heap h1 (hd _ h0),hm.owns h2 (fun k hk=>hd k (h3 k hk)),h3⟩
theorem qZ.mono (h:qZ w p S l) (hs:∀k,k < w.heap.size→S k→S' k):qZ w p S' l:=by
 obtain⟨h0,v,h1,h2,h3⟩:=h
 exact⟨hs _ (Array.getElem?_eq_some_iff.1 h1).1 h0,v,h1,h2,fun g hg=>hs g (JE h2 hg) (h3 g hg)⟩
theorem qZ.grew (h:qZ w p S l) (hg:jA w w'):qZ w' p S l:=h.kept (Moved.of_grew (S:=fun _=>False) hg) (fun _ _ h=>h)
theorem vE {a b:Value} {t:TypeId} (h:w.heap[p]? = some (.cells #[a,b] t (0,0))):w.cell? ⟨p,0,none⟩=some a∧w.cell? ⟨p,1,none⟩=some b:=
 ⟨by rw[cell_of_row w p 0 _ _ _ h];rfl,by rw[cell_of_row w p 1 _ _ _ h];rfl⟩
end
theorem YD {w:World} {p:Nat} {S:Nat→Prop} {l:List V3} (h:qZ w p S l):Calls prog 85 #[jF p] w fun r w'=>r=.returned (.bool false)∧w'=w:=by
 obtain⟨_,v,h1,_⟩:=h
 obtain⟨c0,c1⟩:=vE h1
 clear h1
 go_enter func85,ntmps85
 go_wp2
 go_ret
 exact⟨rfl,rfl⟩
theorem iL {w:World} {p:Nat} {S:Nat→Prop} {l:List V3} (h:qZ w p S l):Calls prog 78 #[jF p] w fun r w'=>r=.returned (.int .i64 l.length)∧w'=w:=by
 have HB:=zh h
 obtain⟨_,v,h1,h2,_⟩:=h
 obtain⟨c0,c1⟩:=vE h1
 obtain⟨a,c,rfl,_⟩:=kD h2
 clear h1 h2
 go_enter func78,ntmps78
 go_wp2_with fail
 refine (YD HB.out).mono ?_
 rintro r w' ⟨rfl,rfl⟩
 go_wp2
 go_ret
 exact⟨rfl,rfl⟩
def V2 (p:Nat) (S:Nat→Prop) (l:List V3) (w w':World):Prop:=∃S',qZ w' p S' l∧JV S S' w w'∧Moved S w w'
theorem V2.refl {w:World} {p:Nat} {S:Nat→Prop} {l:List V3} (h:qZ w p S l):V2 p S l w w:=⟨S,h,JV.refl _ _ _,Moved.refl _ _⟩
theorem mR {w w3:World} {p:Nat} {S:Nat→Prop} {l':List V3} {v v':Value} (h0:S p) (h1:w.heap[p]? = some (.cells #[v,.bool true] 111 (0,0))) (h2:v.ownBlock≠some p) (h3:∀g,v.ownBlock=some g→S g)
 (j3:jO w3 0 v' l') (hgr:w.grownBy w3 v.ownBlock) (hnx:zO w v.ownBlock v'.ownBlock) :
 w3.heap[p]? = some (.cells #[v,.bool true] 111 (0,0))∧V2 p S l' w (w3.setCell ⟨p,0,none⟩ v'):=by
 have hlt:p < w.heap.size:=(Array.getElem?_eq_some_iff.1 h1).1
 have hp3:w3.heap[p]? = some (.cells #[v,.bool true] 111 (0,0)):=(hgr.block p hlt (fun he=>h2 he.symm)).trans h1
 have hne:v'.ownBlock≠some p:=zZ j3 hp3 (by decide)
 have hm:Moved (fun k=>k=p) w3 (w3.setCell ⟨p,0,none⟩ v'):=zK w3 p 0 v'
 have hh:(w3.setCell ⟨p,0,none⟩ v').heap[p]? = some (.cells #[v',.bool true] 111 (0,0)):=by have:=heap_setCell_same w3 p 0 _ _ v' hp3;simpa using this
 refine⟨hp3,fun k=>k=p∨v'.ownBlock=some k,⟨.inl rfl,v',hh,hm.owns j3 (fun k hk he=>hne (by rw[hk,he])),fun g hg=>.inr hg⟩,fun k hk=>?_,?_⟩
 ·rcases hk with rfl|hk
  ·exact .inl h0
  ·rcases hnx k hk with h|h
   ·exact .inl (h3 k h)
   ·exact .inr ⟨h,Nat.lt_of_lt_of_le (JE j3 hk) hm.size⟩
 ·exact (Moved.of_grown hgr).mono (T:=S) (fun j _ hj=>h3 j hj.symm) |>.trans hm (fun j _ hj=>hj ▸ h0)
theorem pD {w:World} {p:Nat} {S:Nat→Prop} {l m:List V3} (sv:Value) (h:qZ w p S l) (hl:l.length≤65536) (hv:ValsAt w sv m) (kQ:∀c,sv=.slice none 0 c→c=0) (hm:m.length≤65536) :
 Calls prog 69 #[jF p,sv] w fun r w'=>r=.returned (.int .i64 (if l.length+m.length≤65536 then 0 else 5))∧V2 p S (if l.length+m.length≤65536 then l++m else l) w w':=by
 have HB:=zh h
 have HV:=zh hv
 have HN:=zh kQ
 obtain⟨h0,v,h1,h2,h3⟩:=h
 have hne:Hid (v.ownBlock≠some p):=zZ h2 h1 (by decide)
 obtain⟨c0,c1⟩:=vE h1
 obtain⟨va,vc,rfl,_⟩:=kD h2
 obtain⟨xa,xc,rfl,_⟩:=hv
 have H0:=zh h0
 have H1:=zh h1
 have H2:=zh h2
 have H3:=zh h3
 have f0:=jE h1 0
 clear h0 h1 h2 h3 kQ
 by_cases hlt:l.length+m.length≤65536
 ·have hlt2:¬(m.length:Int) > 65536 - l.length:=by omega
  rw[if_pos hlt,if_pos hlt]
  have HLT:=zh hlt
  clear hlt
  go_enter func69,ntmps69
  go_wp2_with fail
  refine (YD HB.out).mono ?_
  rintro r w' ⟨rfl,rfl⟩
  go_wp2_with (at_builtin;refine zT rfl _ _ rfl 0 (.slice va l.length vc) l rfl H2.out _ m rfl HV.out HN.out (by have:=HLT.out;omega) (Nat.zero_le _) ?_;intro v' w3 j3 hgr hqq;obtain⟨va2,vc2,rfl,_⟩:=kD j3;have hd:=mR H0.out H1.out hne.out H3.out j3 hgr hqq;have hp3:=hd.1;have HD:=zh hd.2;clear hd;obtain⟨d0,d1⟩:=vE hp3;replace f0:=jE hp3 0;clear hp3 j3 hgr hqq c0 c1)
  go_wp2
  go_ret
  have HE:=HD.out
  rw[List.length_append] at HE
  exact⟨rfl,HE⟩
 ·have hlt2:(m.length:Int) > 65536 - l.length:=by omega
  rw[if_neg hlt,if_neg hlt]
  go_enter func69,ntmps69
  go_wp2_with fail
  refine (YD HB.out).mono ?_
  rintro r w' ⟨rfl,rfl⟩
  go_wp2
  go_ret
  exact⟨rfl,V2.refl HB.out⟩
theorem bS (w:World) (v:Value) (x:List V3) (h:ValsAt w v x) (kQ:∀c,v=.slice none 0 c→c=0) (hl:x.length≤1048576) :
 Calls prog 124 #[v] w fun r w'=>∃v',r=.returned v'∧jO w' w.heap.size v' x∧jA w w':=by
 have HX:=zh h
 have HN:=zh kQ
 obtain⟨a,c,rfl,hc⟩:=h
 cases a with
 | none=>
  have h1:x=[]:=by
   cases x with
   | nil=>rfl
   | cons y r=>obtain⟨b,off,e,_⟩:=hc 0 y rfl;cases e
  subst h1
  have h0:=kQ c rfl
  subst h0
  have hq:=fun W=>Lib.run_eql_slice_nil_nil (P:=prog) W 0 0 underlying57
  show Calls prog 124 #[.slice none 0 0] w _
  go_enter func124,ntmps124
  go_wp2
  go_ret
  exact⟨_,rfl,World.ownsRow_nil _ _ _ _,jA.refl _⟩
 | some ad=>
  have hq:=fun W=>Lib.run_eql_slice_some_nil (P:=prog) W ad x.length c underlying57
  have j3:Hid (jO (w.alloc (.cells #[] 65)) w.heap.size (.slice (some ⟨w.heap.size,0,none⟩) 0 0) []):=
   World.ownsRow_made w #[] 0 (Nat.le_refl _) (by decide) rfl
  have HX2:Hid (ValsAt (w.alloc (.cells #[] 65)) (.slice (some ad) x.length c) x):=HX.out.grew ((jA.refl w).alloc (.cells #[] 65))
  clear hc kQ
  go_enter func124,ntmps124
  go_wp2_with (at_builtin;refine zT rfl _ _ rfl w.heap.size (.slice (some ⟨w.heap.size,0,none⟩) 0 0) [] rfl j3.out _ x rfl HX2.out HN.out (by simp;omega) (by simp) ?_;intro v' w3 hown2 hgr hqq;obtain⟨va2,vc2,rfl,_⟩:=kD hown2;have HO:=zh (And.intro hown2 hgr);clear hown2 hgr hqq)
  go_ret
  refine⟨_,rfl,by simpa using HO.out.1,?_⟩
  have h1:Below w.heap.size w (w.alloc (.cells #[] 65)):=(jA.refl w).alloc _
  exact h1.grown HO.out.2 (by simp) (fun k hk=>by cases hk;exact Nat.le_refl _)
def InR (i:Int) (n:Nat):Prop:=0≤i∧i≤n
theorem pE {w:World} {B:Nat} {l:List V3} {a:Option Addr} {c:Nat} (h:jO w B (.slice a l.length c) l) (k:Nat) (hk:k≤l.length) (a':Option Addr) (c':Nat) (ha:∀b off,a=some ⟨b,off,none⟩→k < c→a'=some ⟨b,off+k*3,none⟩):ValsAt w (.slice a' (l.drop k).length c') (l.drop k):=by
 have hv:=h.vals
 obtain⟨a0,c0,e,hc⟩:=hv
 injection e with e1 e2 e3
 subst e1 e3
 refine⟨a',c',rfl,fun i v hi=>?_⟩
 rw[List.getElem?_drop] at hi
 obtain⟨b,off,rfl,q0,q1,q2⟩:=hc (k+i) v hi
 have hkl:k+i < l.length:=(List.getElem?_eq_some_iff.1 hi).1
 have hcap:l.length≤c:=by
  rcases h.2 with ⟨e,hn⟩|⟨g,cap,cur,e,_,_,hn,_⟩
  ·cases e
  ·cases e;exact hn
 have:=ha b off rfl (by omega)
 refine⟨b,off+k*3,this,?_,?_,?_⟩
 ·rw[show off+k*3+i*3=off+(k+i)*3 by omega];exact q0
 ·rw[show off+k*3+i*3+1=off+(k+i)*3+1 by omega];exact q1
 ·rw[show off+k*3+i*3+2=off+(k+i)*3+2 by omega];exact q2
theorem oD {w:World} {B:Nat} {l:List V3} {a:Option Addr} {c:Nat} (h:jO w B (.slice a l.length c) l):l.length≤c∧c≤9223372036854775807∧(a=none→c=0)∧∀ad,a=some ad→∃g,ad=⟨g,0,none⟩:=by
 rcases h.2 with ⟨e,hn⟩|⟨g,cap,cur,e,_,_,hn,hm,_⟩
 ·injection e with e1 e2 e3;subst e1 e3;exact⟨by omega,by omega,fun _=>rfl,fun ad h=>by cases h⟩
 ·cases e;refine⟨hn,by unfold maxLen at hm;exact hm,fun h=>(by cases h),fun ad h=>⟨g,by cases h;rfl⟩⟩
theorem pF {w:World} {p:Nat} {S:Nat→Prop} {l:List V3} (start:Int) (h:qZ w p S l) (hl:l.length≤65536) :
 Calls prog 86 #[jF p,.int .i64 start] w fun r w'=>(InR start l.length∧∃v',r=.returned (.tuple #[v',.bool true])∧jO w' w.heap.size v' (l.drop start.toNat)∧jA w w')∨(¬InR start l.length∧r=.returned (.tuple #[.slice none 0 0,.bool false])∧w'=w):=by
 obtain⟨h0,v,h1,h2,h3⟩:=h
 obtain⟨c0,c1⟩:=vE h1
 obtain⟨a,c,rfl,_⟩:=kD h2
 obtain⟨hc1,hc2,hc3,hc4⟩:=oD h2
 have H2:=zh h2
 have HC:=zh hc4
 clear h0 h1 h2 h3 hc4
 by_cases hs:0≤start
 ·by_cases hle:start≤l.length
  ·obtain⟨k,rfl⟩:∃k:Nat,start=k:=⟨start.toNat,by omega⟩
   have hk:k≤l.length:=by omega
   have HI:Hid (InR (k:Int) l.length):=⟨by omega,by omega⟩
   have HK:=zh (show (l.drop k).length=l.length - k by simp)
   have HD:Hid (∀(a':Option Addr) (c':Nat),(∀b off,a=some ⟨b,off,none⟩→k < c→a'=some ⟨b,off+k*3,none⟩)→ValsAt w (.slice a' (l.length - k) c') (l.drop k)):=fun a' c' ha=>by rw[← HK.out];exact pE H2.out k hk a' c' ha
   cases a with
   | none=>
    have hc0:=hc3 rfl
    subst hc0
    have hl0:l.length=0:=by omega
    have hk0:k=0:=by omega
    subst hk0
    go_enter func86,ntmps86
    go_wp2_with fail
    refine (bS _ _ (l.drop 0) (by have:=HD.out none 0 (fun b off e=>by cases e);rw[hl0] at this;exact this) (fun c e=>by cases e;rfl) (by simp;omega)).mono ?_
    rintro r w' ⟨v',rfl,ho,hg⟩
    have HO:=zh (And.intro ho hg)
    clear ho hg
    go_wp2
    go_ret2
    exact .inl ⟨HI.out,v',rfl,HO.out⟩
   | some ad=>
    obtain⟨g,rfl⟩:=HC.out _ rfl
    have HCL:Hid (∀(a':Option Addr) (c':Nat),(∀b off,some (⟨g,0,none⟩:Addr)=some ⟨b,off,none⟩→k < c→a'=some ⟨b,off+k*3,none⟩)→(∀q,Value.slice a' (l.length - k) c'=.slice none 0 q→q=0)→Calls prog 124 #[.slice a' (l.length - k) c'] w fun r w'=>∃v',r=.returned v'∧jO w' w.heap.size v' (l.drop k)∧jA w w'):=
     fun a' c' ha hn=>bS w _ (l.drop k) (HD.out a' c' ha) hn (by simp;omega)
    go_enter func86,ntmps86
    go_wp2_with fail
    all_goals
     refine (HCL.out _ _ (fun b off e hkc=>by first | omega | (cases e;simp;done) | (cases e;simp;omega)) (fun q e=>by cases e)).mono ?_
     rintro r w' ⟨v',rfl,ho,hg⟩
     have HO:=zh (And.intro ho hg)
     clear ho hg
     go_wp2
     go_ret2
     exact .inl ⟨HI.out,v',rfl,HO.out⟩
  ·have HI:Hid (¬InR start l.length):=fun h=>hle h.2
   go_enter func86,ntmps86
   go_wp2
   go_ret2
   exact .inr ⟨HI.out,rfl,rfl⟩
 ·have HI:Hid (¬InR start l.length):=fun h=>hs h.1
  go_enter func86,ntmps86
  go_wp2
  go_ret2
  exact .inr ⟨HI.out,rfl,rfl⟩
theorem VM {w:World} {p:Nat} {S:Nat→Prop} {l:List V3} (start:Int) (h:qZ w p S l) (hl:l.length≤65536) :
 Calls prog 44 #[jF p,.int .i64 start] w fun r w'=>(InR start l.length∧∃v',r=.returned (.tuple #[v',.int .i64 0])∧jO w' w.heap.size v' (l.drop start.toNat)∧jA w w')∨(¬InR start l.length∧r=.returned (.tuple #[.slice none 0 0,.int .i64 140])∧w'=w):=by
 have HB:=zh h
 obtain⟨h0,v,h1,h2,h3⟩:=h
 obtain⟨c0,c1⟩:=vE h1
 clear h0 h1 h2 h3
 go_enter func44,ntmps44
 go_wp2_with fail
 refine (YD HB.out).mono ?_
 rintro r w' ⟨rfl,rfl⟩
 go_wp2_with fail
 refine (pF start HB.out hl).mono ?_
 rintro r w2 (⟨q1,v',rfl,ho,hg⟩|⟨hn,rfl,rfl⟩)
 ·have HO:=zh (And.intro q1 (And.intro ho hg))
  clear q1 ho hg
  go_wp2
  go_ret2
  exact .inl ⟨HO.out.1,v',rfl,HO.out.2⟩
 ·have HN:=zh hn
  clear hn
  go_wp2
  go_ret2
  exact .inr ⟨HN.out,rfl,rfl⟩
theorem sA {w:World} {p:Nat} {S:Nat→Prop} {l:List V3} (n:Nat) (h:qZ w p S l) (hl:l.length≤65536) (hn:n≤l.length) :
 Calls prog 36 #[jF p,.int .i64 n] w fun r w'=>∃v',r=.returned (.tuple #[v',.int .i64 0])∧jO w' w.heap.size v' (l.drop (l.length - n))∧V2 p S (l.take (l.length - n)) w w':=by
 have HB:=zh h
 go_enter func36,ntmps36
 clear h
 go_wp2_with fail
 refine (iL HB.out).mono ?_
 rintro r w' ⟨rfl,rfl⟩
 obtain⟨m,hm⟩:∃m:Nat,l.length - n=m:=⟨_,rfl⟩
 have hmi:(l.length:Int) - n=m:=by omega
 have HM:=zh hm
 clear hm
 go_wp2_with fail
 refine (VM (m:Int) HB.out hl).mono ?_
 rintro r w2 (⟨q1,v',rfl,ho,hg⟩|⟨hx,rfl,rfl⟩)
 ·have hb2:=HB.out.grew hg
  rw[show ((m:Int)).toNat=m from rfl] at ho
  obtain⟨h0,v,h1,h2,h3⟩:=hb2
  have HST:Hid (jO w2 w'.heap.size v' (l.drop m)∧jA w' w2):=⟨ho,hg⟩
  obtain⟨a2,c2,rfl,_⟩:=kD ho
  obtain⟨c0,c1⟩:=vE h1
  obtain⟨a,c,rfl,_⟩:=kD h2
  obtain⟨hc1,hc2,hc3,hc4⟩:=oD h2
  have f0:=jE h1 0
  have hmc:m≤c:=by omega
  have hmc2:(m:Int)≤c:=by omega
  have HF:Hid (V2 p S (l.take m) w2 (w2.setCell ⟨p,0,none⟩ (.slice a m c))∧jO (w2.setCell ⟨p,0,none⟩ (.slice a m c)) w'.heap.size (.slice a2 (l.drop m).length c2) (l.drop m)):=by
   have hne:(Value.slice a l.length c).ownBlock≠some p:=zZ h2 h1 (by decide)
   have hm2:Moved (fun k=>k=p) w2 (w2.setCell ⟨p,0,none⟩ (.slice a m c)):=zK w2 p 0 _
   have hh:(w2.setCell ⟨p,0,none⟩ (.slice a m c)).heap[p]? = some (.cells #[.slice a m c,.bool true] 111 (0,0)):=by have:=heap_setCell_same w2 p 0 _ _ (.slice a m c) h1;simpa using this
   have hob:(Value.slice a m c).ownBlock=(Value.slice a l.length c).ownBlock:=by cases a<;>rfl
   have hot:jO w2 0 (.slice a m c) (l.take m):=by
    have:=pC h2 m (by omega)
    rw[YP] at this
    unfold jO
    rw[List.length_take,Nat.min_eq_left (by omega)]
    exact this
   refine⟨⟨S,⟨h0,_,hh,hm2.owns hot (fun k hk he=>hne (by rw[← hob,hk,he])),fun g hg=>h3 g (by rw[← hob];exact hg)⟩,JV.refl _ _ _,hm2.mono (fun j _ hj=>hj ▸ h0)⟩,?_⟩
   refine hm2.owns HST.out.1 (fun k hk he=>?_)
   exact (zZ HST.out.1 h1 (by decide)) (by rw[hk,he])
  clear h0 h1 h2 h3 ho hg q1 hc1 hc3 hc4
  go_wp2
  go_ret2
  rw[HM.out]
  refine⟨_,rfl,by have h:=HF.out.2;rw[List.length_drop] at h;exact h,?_⟩
  obtain⟨S',k1,k2,k3⟩:=HF.out.1
  exact⟨S',k1,fun k hk=>(k2 k hk).imp id (fun h=>⟨Nat.le_trans HST.out.2.size h.1,h.2⟩),(Moved.of_grew (S:=S) HST.out.2).trans' k3⟩
 ·exact absurd ⟨by omega,by omega⟩ hx
theorem sB (w:World):Calls prog 24 #[] w fun r w'=>r=.returned (jF w.heap.size)∧qZ w' w.heap.size (fun k=>k=w.heap.size) []∧jA w w'∧w'.heap.size=w.heap.size+1:=by
 go_enter func24,ntmps24
 go_wp2
 go_ret
 exact⟨rfl,⟨rfl,_,heap_alloc_new _ _,World.ownsRow_nil _ _ _ _,fun g hg=>by cases hg⟩,(jA.refl w).alloc _,World.size_alloc _ _⟩
end Go.Proofs.YtjnpcddbgfmpcaaGreatDoor
namespace Go.Proofs.YtjnpcddbgfmpcaaGreatDoor
open Go.Proofs.Tryz
open Go Go.ChangeShapes Go.WideShapes Go.ChangeAt Go.RowKit Go.Joins
open Go.Proofs.YtjnpcddbgfmpcaaGreatDoor.Ft (V3 vV okV ValsAt inlineB legalB packF codeF typedF allF)
end Go.Proofs.YtjnpcddbgfmpcaaGreatDoor
namespace Go.Proofs.YtjnpcddbgfmpcaaGreatDoor
open Go.Proofs.Tryz
open Go Go.ChangeShapes Go.WideShapes Go.ChangeAt Go.RowKit Go.Joins
open Go.Proofs.YtjnpcddbgfmpcaaGreatDoor.Ft (V3 vV okV ValsAt inlineB legalB packF codeF typedF allF allAt headF fitsL fitsV fitsF belowW isA)
def V4 (n:Int) (k:V3):Prop:=k.1=14∧isW k.2.1=true∧0≤k.2.2∧k.2.2≤n
theorem pG {n:Int} {k:V3} {l:List V3} (hk:V4 n k) (hl:∀v∈l,jY v=0):yX k l=0:=by
 unfold yX
 rw[if_pos hk.1,if_pos hk.2.1]
 induction l with
 | nil=>rfl
 | cons v r ih=>
  show zA jY (if (0:Int)=0 then jY v else 0) r=0
  rw[if_pos rfl,hl v (by simp)]
  exact ih fun u hu=>hl u (by simp[hu])
theorem Y6 {n:Int} {k:V3} (hk:V4 n k):inlineB k.1=false:=by rw[hk.1];decide
theorem iM {n:Int} {k:V3} {l:List V3} (hn:0≤n) (hn2:n≤1048576) (hl:l.length≤1048575) (h:∀v∈l,ZG n v) (hk:V4 n k) :
 allF l k n 3=Ft.leastOf (fun v=>allAt l k n 3 v)∧allF l k n 3≠0∧isW (allF l k n 3)=true∧allAt l k n 3 (allF l k n 3)=true:=by
 have hA:isA 3:=by simp[isA]
 have e:allF l k n 3=Ft.leastOf (fun v=>allAt l k n 3 v):=by
  unfold allF
  rw[if_pos ⟨⟨hn,by omega⟩,hA,by omega⟩]
 have p8:(2:Int) ^ (8*(8:Int).toNat)=18446744073709551616:=by decide
 have h8:allAt l k n 3 8=true:=by
  unfold allAt
  rw[VI l 3 h hn (by omega) (by omega),Bool.and_true]
  unfold headF
  have hb:belowW l.length 8=true:=by unfold belowW;rw[decide_eq_true_eq,p8];omega
  have hkf:fitsV k n 0 8=true:=by
   unfold fitsV fitsF
   rw[Y6 hk]
   simp only[Bool.false_eq_true,if_false,Bool.and_eq_true,decide_eq_true_eq,belowW,p8]
   obtain⟨_,_,h0,h1⟩:=hk
   exact⟨h1,by omega⟩
  rw[hb,hkf]
  simp
 have h0:allF l k n 3≠0:=by rw[e];exact Y3 h8
 refine⟨e,h0,KJ h0,?_⟩
 have:=J8 (p:=fun v=>allAt l k n 3 v) (by rw[← e];exact h0)
 rw[← e] at this
 exact this
def qK (x:Int) (k:V3) (b:List UInt8) (l:List V3):List (List UInt8):=
 j6 (j5 b x)::kH x.toNat ((b.length:Int)+j5 b x - k.2.2).toNat::kH x.toNat k.2.1.toNat::kH x.toNat l.length::(J0 x ((b.length:Int)+j5 b x+3*x) l++l.map fun v=>[qC x v])
def fT (x:Int) (b:List UInt8) (l:List V3):Int:=b.length+j5 b x+3*x+x*l.length+l.length
theorem ZW {x:Int} (hx:isW x=true) (k:V3) (b:List UInt8) (l:List V3):(b.length:Int)+(qK x k b l).flatten.length=fT x b l:=by
 have h1:=vR hx l ((b.length:Int)+j5 b x+3*x)
 have h2:=V0 x l
 have hp:=kI hx
 unfold qK fT
 simp only[List.flatten_append,List.flatten_cons,List.length_append,jX,j9] at h1⊢
 omega
theorem lenM_le {x:Int} (hx:isW x=true) (b:List UInt8) (l:List V3):fT x b l≤b.length+31+9*l.length:=by
 have hw:=kI hx
 have hp:=(QH (l:=b) hx).1
 have hm:x*(l.length:Int)≤8*l.length:=Int.mul_le_mul_of_nonneg_right hw.2 (by omega)
 unfold fT
 omega
theorem iN {n x:Int} {k:V3} {l:List V3} (hx:isW x=true) (hk:V4 n k) (h:allAt l k n 3 x=true) :
 (l.length:Int) < 2 ^ (8*x.toNat)∧(0≤(n+x - 1) / x*x - k.2.2∧(n+x - 1) / x*x - k.2.2 < 2 ^ (8*x.toNat))∧fitsL l n 3 x=true:=by
 unfold allAt headF at h
 simp only[Bool.and_eq_true,Bool.or_eq_true,belowW,decide_eq_true_eq] at h
 obtain⟨⟨h1,h2⟩,h3⟩:=h
 have h4:fitsV k n 0 x=true:=by simpa using h2
 unfold fitsV fitsF at h4
 rw[Y6 hk] at h4
 simp only[Bool.false_eq_true,if_false,Bool.and_eq_true,decide_eq_true_eq,belowW,Int.zero_mul,Int.add_zero] at h4
 have hge:n≤(n+x - 1) / x*x:=by rcases kJ hx with rfl | rfl | rfl | rfl<;>omega
 exact⟨by simpa using h1,⟨by omega,h4.2⟩,h3⟩
theorem putM_ok {most:Int} {k:V3} {b:List UInt8} {l:List V3} {x:Int} (hb:b.length≤1048576) (hl:l.length≤1048575) (h:∀v∈l,ZG b.length v) (hk:V4 b.length k) (hx:allF l k b.length 3=x) (hr:fT x b l≤most) :
 y3 most k l (b,0)=(((9,x,(b.length:Int)+j5 b x+3*x),0),(b++(qK x k b l).flatten,0)):=by
 obtain⟨_,x0,hw,q8⟩:=iM (n:=b.length) (by omega) (by omega) hl h hk
 rw[hx] at x0 hw q8
 have hwp:=kI hw
 have hpe:=bQ hw b
 obtain⟨j8,hko,hfit⟩:=iN hw hk q8
 rw[← hpe] at hko
 have hk8:k.2.1 < 2 ^ (8*x.toNat):=by
  have h1:=kI hk.2.1
  have h2:(256:Int)≤2 ^ (8*x.toNat):=by rcases kJ hw with rfl | rfl | rfl | rfl<;>decide
  omega
 have hfe:fitE x ((b.length:Int)+j5 b x+3*x) l:=QW hw l 3 _ (by rw[hpe]) (by omega) hfit
 have hpl:=ZW hw k b l
 have hmul:0≤x*(l.length:Int):=Int.mul_nonneg (by omega) (by omega)
 have hkn:¬inlineB k.1=true:=by rw[Y6 hk];decide
 unfold y3
 rw[if_neg (by rw[pG hk (mO h)];simp)]
 simp only[hx]
 rw[if_neg x0]
 have e1:jG most x (b,0)=(b++j6 (j5 b x),0):=by
  unfold jG
  rw[if_pos hw]
  exact vL _ _ _ (by rw[jX];show (b.length:Int)+(j5 b x:Nat)≤most;unfold fT at hr;omega)
 have hl1:((b++j6 (j5 b x)).length:Int)=(b.length:Int)+j5 b x:=by rw[List.length_append,jX];omega
 have e2:zX most x (jG most x (b,0)) k=(b++j6 (j5 b x)++kH x.toNat ((b.length:Int)+j5 b x - k.2.2).toNat,0):=by
  rw[e1,dZ hw (by unfold JD;rw[if_neg hkn,hl1];exact hko)]
  unfold JD
  rw[if_neg hkn,hl1]
  exact vL _ _ _ (by simp only[List.length_append,j9,jX];unfold fT at hr;omega)
 have e3:qF most x k l.length (b,0)=(b++j6 (j5 b x)++kH x.toNat ((b.length:Int)+j5 b x - k.2.2).toNat++kH x.toNat k.2.1.toNat++kH x.toNat l.length,0):=by
  unfold qF
  rw[e2,KK hw hk8,vL _ _ _ (by simp only[List.length_append,j9,jX];unfold fT at hr;omega),KK hw j8]
  exact vL _ _ _ (by simp only[List.length_append,j9,jX];unfold fT at hr;omega)
 have hl3:((b++j6 (j5 b x)++kH x.toNat ((b.length:Int)+j5 b x - k.2.2).toNat++kH x.toNat k.2.1.toNat++kH x.toNat l.length).length:Int)=(b.length:Int)+j5 b x+3*x:=by
  simp only[List.length_append,j9,jX];omega
 have e4:kP most x l (jU most x l (qF most x k l.length (b,0)))=(b++(qK x k b l).flatten,0):=by
  rw[e3,K2 hw l _ (by rw[hl3];exact hfe),hl3,ZV,← JC]
  have hfl:(b++j6 (j5 b x)++kH x.toNat ((b.length:Int)+j5 b x - k.2.2).toNat++kH x.toNat k.2.1.toNat++kH x.toNat l.length)++(J0 x ((b.length:Int)+j5 b x+3*x) l++l.map fun v=>[qC x v]).flatten=b++(qK x k b l).flatten:=by
   unfold qK
   simp only[List.flatten_cons,List.append_assoc]
  rw[JH _ _ (by rw[← Int.natCast_add,← List.length_append,hfl,List.length_append];omega),hfl]
 rw[e4,e3]
 simp only[ne_eq,not_true_eq_false,if_false]
 rw[hl3]
end Go.Proofs.YtjnpcddbgfmpcaaGreatDoor
namespace Go.Proofs.YtjnpcddbgfmpcaaGreatDoor
open Go.Proofs.Tryz
open Go Go.ChangeShapes Go.WideShapes Go.ChangeAt Go.RowKit Go.Joins
open Go.Proofs.YtjnpcddbgfmpcaaGreatDoor.Ft (V3 vV okV ValsAt inlineB legalB packF codeF typedF allF allAt headF fitsL fitsV fitsF belowW isA unpackF)
structure HeldM (x p:Int) (k:V3) (b X:List UInt8) (l:List V3):Prop where
 head:X.take b.length=b
 len:(X.length:Int)=p+x*l.length+l.length
 off:kC X (p - 3*x) x=(p - 3*x - k.2.2,0)
 wide:kC X (p - 2*x) x=(k.2.1,0)
 many:kC X (p - x) x=((l.length:Int),0)
 elem:∀(j:Nat) (v:V3),l[j]? = some v→kC X (p+j*x) x=(JD x (p+j*x) v,0)
 tag:∀(j:Nat) (v:V3),l[j]? = some v→X[(p+l.length*x).toNat+j]? = some (qC x v)
theorem heldM {b:List UInt8} {k:V3} {l:List V3} {x p:Int} (hn:b.length≤1048576) (hl:l.length≤1048575) (h:∀v∈l,ZG b.length v) (hk:V4 b.length k) (hx:allF l k b.length 3=x) (hp:(b.length:Int)+j5 b x+3*x=p) :
 isW x=true∧HeldM x p k b (b++(qK x k b l).flatten) l∧(p - 3*x) % x=0∧(b.length:Int)≤p - 3*x∧p - 3*x < b.length+x∧(∀v∈l,inlineB v.1=true→v.2.1≤x)∧k.2.2≤p - 3*x:=by
 obtain⟨_,x0,hw,q8⟩:=iM (n:=b.length) (by omega) (by omega) hl h hk
 rw[hx] at hw q8
 have hwp:=kI hw
 obtain⟨j8,hko,hfit⟩:=iN hw hk q8
 have hpad:=QH (l:=b) hw
 have hpe:=bQ hw b
 rw[← hpe] at hko
 have hk8:k.2.1 < 2 ^ (8*x.toNat):=by
  have h1:=kI hk.2.1
  have h2:(256:Int)≤2 ^ (8*x.toNat):=by rcases kJ hw with rfl | rfl | rfl | rfl<;>decide
  omega
 have hkp:=kI hk.2.1
 have hfe:fitE x p l:=QW hw l 3 p (by rw[← hp,hpe]) (by omega) hfit
 have hEl:=vR hw l p
 have hpieces:(qK x k b l).flatten=j6 (j5 b x)++kH x.toNat (p - 3*x - k.2.2).toNat++kH x.toNat k.2.1.toNat++kH x.toNat l.length++(J0 x p l).flatten++l.map (qC x):=by
  unfold qK
  rw[hp,show (b.length:Int)+j5 b x - k.2.2=p - 3*x - k.2.2 by omega]
  simp[QX]
 rw[hpieces]
 clear hpieces q8
 refine⟨hw,⟨?_,?_,?_,?_,?_,?_,?_⟩,?_,?_,?_,?_,?_⟩
 ·simp only[List.append_assoc];exact List.take_left' rfl
 ·simp only[List.length_append,jX,j9,List.length_map] at hEl⊢;omega
 ·refine JU (A:=b++j6 (j5 b x)) (C:=kH x.toNat k.2.1.toNat++kH x.toNat l.length++(J0 x p l).flatten++l.map (qC x)) hw ?_ ?_ (by omega) (by omega)
  ·simp only[List.append_assoc]
  ·rw[List.length_append,jX];omega
 ·refine JU (A:=b++j6 (j5 b x)++kH x.toNat (p - 3*x - k.2.2).toNat) (C:=kH x.toNat l.length++(J0 x p l).flatten++l.map (qC x)) hw ?_ ?_ (by omega) hk8
  ·simp only[List.append_assoc]
  ·simp only[List.length_append,jX,j9];omega
 ·refine JU (A:=b++j6 (j5 b x)++kH x.toNat (p - 3*x - k.2.2).toNat++kH x.toNat k.2.1.toNat) (C:=(J0 x p l).flatten++l.map (qC x)) hw ?_ ?_ (by omega) j8
  ·simp only[List.append_assoc,Int.toNat_natCast]
  ·simp only[List.length_append,jX,j9];omega
 ·intro j v hj
  obtain⟨A,C,hA,hAk⟩:=fR hw l p j v hj
  have hb:=bR l p j v hfe hj
  refine JU (A:=b++j6 (j5 b x)++kH x.toNat (p - 3*x - k.2.2).toNat++kH x.toNat k.2.1.toNat++kH x.toNat l.length++A) (C:=C++l.map (qC x)) hw ?_ ?_ hb.1 hb.2
  ·rw[hA];simp only[List.append_assoc]
  ·simp only[List.length_append,jX,j9];omega
 ·intro j v hj
  have hXl:(b++(j6 (j5 b x)++kH x.toNat (p - 3*x - k.2.2).toNat++kH x.toNat k.2.1.toNat++kH x.toNat l.length++(J0 x p l).flatten)).length=(p+l.length*x).toNat:=by
   have:(l.length:Int)*x=x*l.length:=Int.mul_comm _ _
   simp only[List.length_append,jX,j9] at hEl⊢
   omega
  rw[← List.append_assoc,← hXl,List.getElem?_append_right (by omega),Nat.add_sub_cancel_left,List.getElem?_map,hj]
  rfl
 ·have:p - 3*x=((b.length:Int)+x - 1) / x*x:=by rw[← hp,← hpe];omega
  rw[this]
  exact Int.mul_emod_left _ _
 ·omega
 ·omega
 ·intro v hv hi
  obtain⟨j,hj,hjv⟩:=List.getElem_of_mem hv
  have:=VK l _ _ x j v hfit (by rw[List.getElem?_eq_getElem hj,hjv])
  unfold fitsV fitsF at this
  rw[if_pos hi] at this
  exact of_decide_eq_true this
 ·omega
theorem vF {X Z:List UInt8} {at_ x u:Int} (h:kC X at_ x=(u,0)):kC (X++Z) at_ x=(u,0):=by
 unfold kC at h⊢
 by_cases hw:isW x=true
 ·have hp:=kI hw
  rw[if_pos hw] at h⊢
  by_cases hb:(at_ < 0∨at_ > X.length - x)
  ·rw[if_pos hb] at h
   simp at h
  ·rw[if_neg hb] at h
   rw[if_neg (by rw[List.length_append];omega)]
   rw[List.drop_append_of_le_length (by omega),List.take_append_of_le_length (by rw[List.length_drop];omega)]
   exact h
 ·rw[if_neg hw] at h
  simp at h
end Go.Proofs.YtjnpcddbgfmpcaaGreatDoor
