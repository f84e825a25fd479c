/-
  Texts of the proof.
-/
import Derived.Test.YtjnpcddbgfmpcaaGreatDoorBMapsPBE
import Derived.Test.YtjnpcddbgfmpcaaGreatDoorBMapsPBH
import Derived.Test.YtjnpcddbgfmpcaaGreatDoorBMapsPBI
set_option linter.unusedVariables false
set_option linter.unusedSimpArgs false
set_option maxHeartbeats 8000000
set_option maxRecDepth 100000
namespace Go.Proofs.YtjnpcddbgfmpcaaGreatDoor
open Go.Proofs.Tryz
open Go Go.ChangeShapes Go.WideShapes Go.ChangeAt Go.RowKit Go.Joins
open Go.Proofs.YtjnpcddbgfmpcaaGreatDoor.Ft (V3 vV okV ValsAt inlineB legalB packF)
def jY (v:V3):Int:=if legalB v.1 then (if inlineB v.1 then 0 else if isW v.2.1 then 0 else 2) else 20
theorem Y2 (v:V3) (w:World):Calls prog 167 #[vV v] w fun r w'=>r=.returned (.int .i64 (jY v))∧jA w w':=by
 obtain⟨ty,wd,n⟩:=v
 have H0:Hid (jA w (w.alloc (.cells #[.int .i64 ty,.int .i64 wd,.int .u64 n] 65))):=(jA.refl w).alloc _
 have h0:(w.alloc (.cells #[.int .i64 ty,.int .i64 wd,.int .u64 n] 65)).cell? ⟨w.heap.size,0,none⟩=some (.int .i64 ty):=by go_simp
 have HC:=zh h0
 clear h0
 show Calls prog 167 #[.agg #[.int .i64 ty,.int .i64 wd,.int .u64 n]] w _
 by_cases hl:legalB ty=true
 ·by_cases hi:inlineB ty=true
  ·have HE:Hid (jY (ty,wd,n)=0):=by show _=_;simp[jY,hl,hi]
   by_cases hw:isW wd=true
   all_goals
   go_enter func167,ntmps167
   go_wp2_with fail
   first | refine (KD wd _ hw).mono ?_ | refine (YA wd _ (by simpa using hw)).mono ?_
   rintro r w' ⟨⟨c,rfl⟩,rfl⟩
   go_wp2_with fail
   refine (Ft.legal_any ty _).mono ?_
   rw[hl]
   rintro r w1 ⟨rfl,hg⟩
   have c0:=hg.cell HC.out
   have HG:=zh (H0.out.trans hg)
   clear hg
   go_wp2_with fail
   refine (Ft.inline_any ty _).mono ?_
   rw[hi]
   rintro r w2 ⟨rfl,hg⟩
   have HG2:=zh (HG.out.trans hg)
   clear hg
   go_wp2
   go_ret
   exact⟨by rw[HE.out];rfl,HG2.out⟩
  ·have hi':inlineB ty=false:=by simpa using hi
   by_cases hw:isW wd=true
   ·have HE:Hid (jY (ty,wd,n)=0):=by show _=_;simp[jY,hl,hi',hw]
    go_enter func167,ntmps167
    go_wp2_with fail
    refine (KD wd _ hw).mono ?_
    rintro r w' ⟨⟨c,rfl⟩,rfl⟩
    go_wp2_with fail
    refine (Ft.legal_any ty _).mono ?_
    rw[hl]
    rintro r w1 ⟨rfl,hg⟩
    have c0:=hg.cell HC.out
    have HG:=zh (H0.out.trans hg)
    clear hg
    go_wp2_with fail
    refine (Ft.inline_any ty _).mono ?_
    rw[hi']
    rintro r w2 ⟨rfl,hg⟩
    have HG2:=zh (HG.out.trans hg)
    clear hg
    go_wp2
    go_ret
    exact⟨by rw[HE.out];rfl,HG2.out⟩
   ·have HE:Hid (jY (ty,wd,n)=2):=by show _=_;simp[jY,hl,hi',hw]
    go_enter func167,ntmps167
    go_wp2_with fail
    refine (YA wd _ (by simpa using hw)).mono ?_
    rintro r w' ⟨⟨c,rfl⟩,rfl⟩
    go_wp2_with fail
    refine (Ft.legal_any ty _).mono ?_
    rw[hl]
    rintro r w1 ⟨rfl,hg⟩
    have c0:=hg.cell HC.out
    have HG:=zh (H0.out.trans hg)
    clear hg
    go_wp2_with fail
    refine (Ft.inline_any ty _).mono ?_
    rw[hi']
    rintro r w2 ⟨rfl,hg⟩
    have HG2:=zh (HG.out.trans hg)
    clear hg
    go_wp2
    go_ret
    exact⟨by rw[HE.out];rfl,HG2.out⟩
 ·have hl':legalB ty=false:=by simpa using hl
  have HE:Hid (jY (ty,wd,n)=20):=by show _=_;simp[jY,hl']
  by_cases hw:isW wd=true
  all_goals
   go_enter func167,ntmps167
   go_wp2_with fail
   first | refine (KD wd _ hw).mono ?_ | refine (YA wd _ (by simpa using hw)).mono ?_
   rintro r w' ⟨⟨c,rfl⟩,rfl⟩
   go_wp2_with fail
   refine (Ft.legal_any ty _).mono ?_
   rw[hl']
   rintro r w1 ⟨rfl,hg⟩
   have HG:=zh (H0.out.trans hg)
   clear hg
   go_wp2
   go_ret
   exact⟨by rw[HE.out];rfl,HG.out⟩
def kY (n:Int) (x:Int):Int:=n % 2 ^ (8*x.toNat)
theorem low_any (n x:Int) (w:World) (hx:isW x=true) (n0:0≤n) (n1:n≤18446744073709551615):Calls prog 172 #[.int .u64 n,.int .i64 x] w fun r w'=>r=.returned (.int .u64 (kY n x))∧w'=w:=by
 rcases kJ hx with rfl|rfl|rfl|rfl
 all_goals
  clear hx
  go_enter func172,ntmps172
  go_wp2
  go_ret
  refine⟨qA ?_,rfl⟩
  unfold kY
  first
   | (show n=_;rw[Int.emod_eq_of_lt n0 (by simp;omega)])
   | (show IntKind.u64.wrap _ / _=_
      simp[IntKind.wrap,IntKind.bits,IntKind.signed]
      omega)
theorem KW {n x:Int} (n0:0≤n) (n1:n≤18446744073709551615):0≤kY n x∧kY n x≤18446744073709551615:=by
 unfold kY
 have hp:(0:Int) < 2 ^ (8*x.toNat):=Int.pow_pos (by decide)
 exact⟨Int.emod_nonneg _ (by omega),by have h1:=Int.emod_add_mul_ediv n (2 ^ (8*x.toNat));have h2:=Int.mul_nonneg (Int.le_of_lt hp) (Int.ediv_nonneg n0 (Int.le_of_lt hp));omega⟩
theorem iE (x:Int):0≤IntKind.u64.wrap x:=by simp[IntKind.wrap,IntKind.bits,IntKind.signed];omega
theorem iF (x:Int):IntKind.u64.wrap x≤18446744073709551615:=by simp[IntKind.wrap,IntKind.bits,IntKind.signed];omega
def zX (most x:Int) (s:St) (v:V3):St:=if inlineB v.1 then jW most x (kY v.2.2 x) s else jW most x (IntKind.u64.wrap ((s.1.length:Int) - v.2.2)) s
def jU (most x:Int) (l:List V3) (s:St):St:=l.foldl (zX most x) s
theorem QT {most x:Int} {v:V3} {s:St} (h:(s.1.length:Int)≤most):((zX most x s v).1.length:Int)≤most:=by
 unfold zX
 split
 ·exact yA h
 ·exact yA h
theorem qP {most x:Int}:∀(l:List V3) {s:St},(s.1.length:Int)≤most→((jU most x l s).1.length:Int)≤most
 | [],s,h=>h
 | v::r,s,h=>qP r (QT (v:=v) h)
theorem VX (most x:Int) (l:List V3) (s:St) (k:Nat) (h:k < l.length):jU most x (l.take (k+1)) s=zX most x (jU most x (l.take k) s) l[k]:=by
 unfold jU
 rw[List.take_succ_eq_append_getElem h,List.foldl_append];rfl
theorem KX {B:Nat} {w:World} {p:Nat} {o:Option Nat} {most:Int} (s:St) (x:Int) (lv:Value) (l:List V3) (hx:isW x=true) (h:kU B w p o s.1 most s.2) (hB:B≤w.heap.size) (hl:(s.1.length:Int)≤most) (hm1:most≤1048576)
 (hv:ValsAt w lv l) (j8:l.length≤1048576) (hok:∀v∈l,okV v) (hap:∀ad n c,lv=.slice (some ad) n c→¬qH p o ad.block) :
 Calls prog 123 #[jF p,.int .i64 x,lv] w fun r w'=>r=.returned (.tuple #[])∧jZ B w w' p o most (jU most x l s):=by
 have HB0:=zh h
 have HX:=zh hx
 have HA:=zh hap
 have HOK:=zh hok
 obtain⟨a,c,rfl,j2⟩:=hv
 have HC:=zh j2
 clear h hx hap hok j2
 go_enter func123,ntmps123
 go_wp2_with fail
 go_loopw [7,10] (fun _ i wr=>∃k:Nat,k≤l.length∧i=.int .i64 k∧Hid (jZ B w wr p o most (jU most x (l.take k) s))) (fun _ i _=>l.length - (intOf i).toNat)
 case atStart=>exact⟨0,Nat.zero_le _,rfl,jZ.refl HB0.out⟩
 case round=>
  obtain⟨k,hk,rfl,HW⟩:=hrel
  by_cases hlt:k < l.length
  ·obtain⟨bl,off,rfl,q0,q1,q2⟩:=HC.out k l[k] (List.getElem?_eq_getElem hlt)
   have hnb:¬qH p o bl:=HA.out ⟨bl,off,none⟩ _ _ rfl
   obtain⟨o1,k1,k2,k3⟩:=HW.out
   have d0:=k3.cell q0 hnb
   have d1:=k3.cell q1 hnb
   have d2:=k3.cell q2 hnb
   have HSN:=zh (VX most x l s k hlt)
   have hv:=HOK.out l[k] (List.getElem_mem hlt)
   have HLE:=zh (qP (x:=x) (l.take k) hl)
   have hBr:B≤wr.heap.size:=Nat.le_trans hB k3.size
   have HBR:=zh hBr
   have HB1:=zh k1
   have HK:=zh (And.intro k2 k3)
   generalize jU most x (l.take k) s=s0 at *
   generalize l[k]=v at *
   obtain⟨ty,wd,vn⟩:=v
   simp only at d0 d1 d2
   have hvn:=hv
   obtain⟨n0,n1⟩:=hv
   clear k1 k2 k3 q0 q1 q2 HW hBr hvn
   simp only at n0 n1
   by_cases hi:inlineB ty=true
   ·go_wp2_with fail
    refine (Ft.inline_any ty _).mono ?_
    rw[hi]
    rintro r w1 ⟨rfl,hg⟩
    have HEL:Hid (zX most x s0 (ty,wd,vn)=jW most x (kY vn x) s0):=by show _=_;simp[zX,hi]
    have cn:w1.cell? ⟨wr.heap.size,2,none⟩=some (.int .u64 vn):=hg.cell (by go_simp)
    have HG2:=zh (((jA.refl wr).alloc _).trans hg)
    clear hg hi
    go_wp2_with fail
    refine (low_any vn x _ HX.out n0 n1).mono ?_
    rintro r w2 ⟨rfl,rfl⟩
    go_wp2_with fail
    refine (yT s0 x (kY vn x) (HB1.out.grew HG2.out) (Nat.le_trans HBR.out HG2.out.size) HLE.out hm1 (KW n0 n1).1 (KW n0 n1).2).mono ?_
    rintro r w5 ⟨rfl,ht⟩
    have HT:=zh (jZ.after HG2.out ht)
    clear ht
    go_wp2
    go_roundw
    case rel=>
     have hT:=HT.out
     rw[← HEL.out,← HSN.out] at hT
     obtain⟨o2,t1,t2,t3⟩:=hT
     exact⟨k+1,by omega,by go_num,o2,t1,HK.out.1.trans t2 HK.out.2.size,HK.out.2.own HK.out.1 t3⟩
    case measure=>simp[intOf];omega
   ·have hi':inlineB ty=false:=by simpa using hi
    have HEL:Hid (zX most x s0 (ty,wd,vn)=jW most x (IntKind.u64.wrap ((s0.1.length:Int) - vn)) s0):=by show _=_;simp[zX,hi']
    go_wp2_with fail
    refine (Ft.inline_any ty _).mono ?_
    rw[hi']
    rintro r w1 ⟨rfl,hg⟩
    have cn:w1.cell? ⟨wr.heap.size,2,none⟩=some (.int .u64 vn):=hg.cell (by go_simp)
    have HG2:=zh (((jA.refl wr).alloc _).trans hg)
    have HB:=zh (HB1.out.grew HG2.out)
    have HBS:=zh (Nat.le_trans HBR.out HG2.out.size)
    have hs0:s0.1.length≤1048576:=by have:=HLE.out;omega
    have hwl:IntKind.u64.wrap (s0.1.length:Int)=(s0.1.length:Int):=by simp[IntKind.wrap,IntKind.bits,IntKind.signed];omega
    clear hg hi hi'
    go_wp2_with fail
    refine JM jA [[],[],[],[2],[3],[],[5],[4,6],[0,1,7]] [[(25,1),(26,2),(27,3),(28,4),(29,5),(30,6),(31,7)],[(24,0),(26,2),(27,3),(28,4),(29,5),(30,6),(31,7)],[(24,0),(25,1),(28,4),(29,5),(30,6),(31,7),(32,8)],[(24,0),(25,1),(26,2),(29,5),(30,6),(31,7),(32,8)],[(24,0),(25,1),(26,2),(27,3),(29,5),(30,6),(32,8)],[(24,0),(25,1),(26,2),(27,3),(28,4),(31,7),(32,8)],[(24,0),(25,1),(26,2),(27,3),(28,4),(29,5),(32,8)],[(24,0),(25,1),(26,2),(27,3),(28,4),(29,5),(30,6)],[(24,0),(25,1),(26,2),(27,3),(28,4),(29,5),(30,6),(31,7)]]
     [Is (jF p),Is (.int .i64 x),Is (jF p),Is (.int .i64 (s0.1.length:Int)),Is (.int .u64 (s0.1.length:Int)),Is (.pointer (some ⟨wr.heap.size,2,none⟩)),Is (.int .u64 vn),Is (.int .u64 (IntKind.u64.wrap ((s0.1.length:Int) - vn)))]
     zk jA.trans jA.refl (jA.refl _).drew zk ⟨jS,jS,jS,jS,jS,jS,jS,jS,trivial⟩ rfl ⟨?_,?_,?_,?_,?_,?_,?_,?_,trivial⟩ ?_ rfl
    ·exact zst
    ·exact zst
    ·exact zst
    ·intro y w2 hG hD K hK
     simp only[zD,zq4,zq5,Is,and_true] at hD
     simp only[jB,Act.put,zq1,zq2,zq3,zq4,zq5,Is] at hK⊢
     simp only[hD] at hK⊢
     clear hD
     refine jL ?_
     go_simp
     refine (yY (HB.out.grew hG)).mono ?_
     rintro r w3 ⟨rfl,rfl⟩
     exact hK _ _ _ rfl (jA.refl _) rfl
    ·exact zst
    ·exact zst
    ·intro y w2 hG hD K hK
     have dcn:=hG.cell cn
     exact zsr
    ·exact zst
    ·intro y w2 hG hF K hK
     simp only[yV,Is,and_true,Nat.reduceAdd] at hF
     have h0:=hF.1
     have h1:=hF.2.1
     have h2:=hF.2.2.1
     have h3:=hF.2.2.2.1
     have h4:=hF.2.2.2.2.1
     have h5:=hF.2.2.2.2.2.1
     have h6:=hF.2.2.2.2.2.2.1
     have h7:=hF.2.2.2.2.2.2.2
     clear hF
     simp only[qT]
     simp only[jB,Act.put,zq1,zq2,zq3,zq4,zq5,Is] at hK⊢
     rw[h0,h1,h2,h3,h4,h5,h6,h7]
     clear h0 h1 h2 h3 h4 h5 h6 h7
     refine jL ?_
     go_simp
     refine (yT s0 x (IntKind.u64.wrap ((s0.1.length:Int) - vn)) (HB.out.grew hG) (Nat.le_trans HBS.out hG.size) HLE.out hm1 (iE _) (iF _)).mono ?_
     rintro r w5 ⟨rfl,ht⟩
     refine hK _ _ ?_
     have HT:=zh (jZ.after HG2.out (jZ.after hG ht))
     clear ht
     go_wp2
     go_roundw
     case rel=>
      have hT:=HT.out
      rw[← HEL.out,← HSN.out] at hT
      obtain⟨o2,t1,t2,t3⟩:=hT
      exact⟨k+1,by omega,by go_num,o2,t1,HK.out.1.trans t2 HK.out.2.size,HK.out.2.own HK.out.1 t3⟩
     case measure=>simp[intOf];omega
  ·have e:k=l.length:=by omega
   have HF:Hid (jZ B w wr p o most (jU most x l s)):=by
    have:=HW.out
    rw[e,List.take_length] at this
    exact this
   clear HW
   go_wp2
   go_end0
   exact⟨rfl,HF.out⟩
end Go.Proofs.YtjnpcddbgfmpcaaGreatDoor
