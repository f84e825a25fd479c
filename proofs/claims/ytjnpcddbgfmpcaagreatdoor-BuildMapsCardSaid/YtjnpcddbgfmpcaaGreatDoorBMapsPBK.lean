/-
  Texts of the proof.
-/
import Derived.Test.YtjnpcddbgfmpcaaGreatDoorBMapsPBJ
import Derived.Laws.EntriesVeiled
set_option linter.unusedVariables false
set_option linter.unusedSimpArgs false
set_option maxHeartbeats 8000000
set_option maxRecDepth 100000
namespace Go.Proofs.YtjnpcddbgfmpcaaGreatDoor
open Go.Proofs.Tryz
open Go Go.ChangeShapes Go.WideShapes Go.ChangeAt Go.RowKit Go.Joins
open Go.Proofs.YtjnpcddbgfmpcaaGreatDoor.Ft (V3 vV okV ValsAt inlineB legalB packF codeF)
def qC (x:Int) (v:V3):UInt8:=UInt8.ofNat (packF v.1 (if inlineB v.1 then x else v.2.1)).1.toNat
def fP (most x:Int) (s:St) (v:V3):St:=kA most (jP [⟨#[qC x v]⟩]) s
def kP (most x:Int) (l:List V3) (s:St):St:=l.foldl (fP most x) s
theorem ZS {most x:Int}:∀(l:List V3) {s:St},(s.1.length:Int)≤most→((kP most x l s).1.length:Int)≤most
 | [],s,h=>h
 | v::r,s,h=>ZS r (Z9 h)
theorem bK (most x:Int) (l:List V3) (s:St) (k:Nat) (h:k < l.length):kP most x (l.take (k+1)) s=fP most x (kP most x (l.take k) s) l[k]:=by
 unfold kP
 rw[List.take_succ_eq_append_getElem h,List.foldl_append];rfl
theorem JR (t x:Int):0≤(packF t x).1∧(packF t x).1≤255:=by
 unfold packF
 split
 ·rename_i h
  have:=Ft.legal_range h
  rcases Ft.codeF_cases x with e|e|e|e|e<;>rw[e]<;>simp<;>omega
 ·simp
theorem r4 {B:Nat} {w:World} {p:Nat} {o:Option Nat} {most:Int} (s:St) (x:Int) (lv:Value) (l:List V3) (h:kU B w p o s.1 most s.2) (hB:B≤w.heap.size) (hl:(s.1.length:Int)≤most) (hm1:most≤1048576)
 (hv:ValsAt w lv l) (j8:l.length≤1048576) (hap:∀ad n c,lv=.slice (some ad) n c→¬qH p o ad.block) :
 Calls prog 168 #[jF p,.int .i64 x,lv] w fun r w'=>r=.returned (.tuple #[])∧jZ B w w' p o most (kP most x l s):=by
 have HB0:=zh h
 have HA:=zh hap
 obtain⟨a,c,rfl,j2⟩:=hv
 have HC:=zh j2
 clear h hap j2
 go_enter func168,ntmps168
 go_wp2_with fail
 go_loopw [13] (fun i wr=>∃k:Nat,k≤l.length∧i=.int .i64 k∧Hid (jZ B w wr p o most (kP most x (l.take k) s))) (fun i _=>l.length - (intOf i).toNat)
 case atStart=>exact⟨0,Nat.zero_le _,rfl,jZ.refl HB0.out⟩
 case round=>
  obtain⟨k,hk,rfl,HW⟩:=hrel
  by_cases hlt:k < l.length
  ·obtain⟨bl,off,rfl,q0,q1,q2⟩:=HC.out k l[k] (List.getElem?_eq_getElem hlt)
   have hnb:¬qH p o bl:=HA.out ⟨bl,off,none⟩ _ _ rfl
   obtain⟨o1,k1,k2,k3⟩:=HW.out
   have d0:=k3.cell q0 hnb
   have d1:=k3.cell q1 hnb
   have d2:=k3.cell q2 hnb
   have HSN:=zh (bK most x l s k hlt)
   have HLE:=zh (ZS (x:=x) (l.take k) hl)
   have hBr:B≤wr.heap.size:=Nat.le_trans hB k3.size
   have HBR:=zh hBr
   have HB1:=zh k1
   have HK:=zh (And.intro k2 k3)
   generalize kP most x (l.take k) s=s0 at *
   generalize l[k]=v at *
   obtain⟨ty,wd,vn⟩:=v
   simp only at d0 d1 d2
   clear k1 k2 k3 q0 q1 q2 HW hBr
   by_cases hi:inlineB ty=true
   ·go_wp2_with fail
    refine (Ft.inline_any ty _).mono ?_
    rw[hi]
    rintro r w1 ⟨rfl,hg⟩
    have c0:w1.cell? ⟨wr.heap.size,0,none⟩=some (.int .i64 ty):=hg.cell (by go_simp)
    have HG1:=zh (((jA.refl wr).alloc _).trans hg)
    clear hg
    go_wp2_with fail
    refine (Ft.pack_any ty x _).mono ?_
    rintro r w2 ⟨rfl,hg⟩
    have HG2:=zh (HG1.out.trans hg)
    have HTB:Hid (qC x (ty,wd,vn)=UInt8.ofNat (packF ty x).1.toNat):=by show _=_;simp[qC,hi]
    have hpk:=JR ty x
    have hb8:(packF ty x).1=((UInt8.ofNat (packF ty x).1.toNat).toNat:Int):=by rw[UInt8.toNat_ofNat'];omega
    have HSZ:=zh HG2.out.size
    generalize packF ty x=pk at *
    clear hg c0 hpk
    have hst:=yK (QO w2 pk.1 (UInt8.ofNat pk.1.toNat) hb8)
    clear hb8
    go_wp2_with fail
    refine (QP s0 ⟨#[UInt8.ofNat pk.1.toNat]⟩ _ (by simp) (HB1.out.grew (HG2.out.alloc _)) (Nat.le_trans HBR.out (HG2.out.alloc _).size) HLE.out hm1 (show (1:Nat)+0≤1073741824 by decide)).mono ?_
    rintro r w5 ⟨rfl,ht⟩
    have HT:=zh (jZ.after (HG2.out.alloc _) ht)
    clear ht hst
    go_wp2
    go_roundw
    case rel=>
     have hT:=HT.out
     rw[← HTB.out] at hT
     have e:kP most x (l.take (k+1)) s=kA most (jP [⟨#[qC x (ty,wd,vn)]⟩]) s0:=HSN.out
     rw[← e] at hT
     obtain⟨o2,t1,t2,t3⟩:=hT
     exact⟨k+1,by omega,by go_num,o2,t1,HK.out.1.trans t2 HK.out.2.size,HK.out.2.own HK.out.1 t3⟩
    case measure=>simp[intOf];omega
   ·have hi':inlineB ty=false:=by simpa using hi
    go_wp2_with fail
    refine (Ft.inline_any ty _).mono ?_
    rw[hi']
    rintro r w1 ⟨rfl,hg⟩
    have c0:w1.cell? ⟨wr.heap.size,0,none⟩=some (.int .i64 ty):=hg.cell (by go_simp)
    have HG1:=zh (((jA.refl wr).alloc _).trans hg)
    clear hg
    go_wp2_with fail
    refine (Ft.pack_any ty wd _).mono ?_
    rintro r w2 ⟨rfl,hg⟩
    have HG2:=zh (HG1.out.trans hg)
    have HTB:Hid (qC x (ty,wd,vn)=UInt8.ofNat (packF ty wd).1.toNat):=by show _=_;simp[qC,hi']
    have hpk:=JR ty wd
    have hb8:(packF ty wd).1=((UInt8.ofNat (packF ty wd).1.toNat).toNat:Int):=by rw[UInt8.toNat_ofNat'];omega
    have HSZ:=zh HG2.out.size
    generalize packF ty wd=pk at *
    clear hg c0 hpk
    have hst:=yK (QO w2 pk.1 (UInt8.ofNat pk.1.toNat) hb8)
    clear hb8
    go_wp2_with fail
    refine (QP s0 ⟨#[UInt8.ofNat pk.1.toNat]⟩ _ (by simp) (HB1.out.grew (HG2.out.alloc _)) (Nat.le_trans HBR.out (HG2.out.alloc _).size) HLE.out hm1 (show (1:Nat)+0≤1073741824 by decide)).mono ?_
    rintro r w5 ⟨rfl,ht⟩
    have HT:=zh (jZ.after (HG2.out.alloc _) ht)
    clear ht hst
    go_wp2
    go_roundw
    case rel=>
     have hT:=HT.out
     rw[← HTB.out] at hT
     have e:kP most x (l.take (k+1)) s=kA most (jP [⟨#[qC x (ty,wd,vn)]⟩]) s0:=HSN.out
     rw[← e] at hT
     obtain⟨o2,t1,t2,t3⟩:=hT
     exact⟨k+1,by omega,by go_num,o2,t1,HK.out.1.trans t2 HK.out.2.size,HK.out.2.own HK.out.1 t3⟩
    case measure=>simp[intOf];omega
  ·have e:k=l.length:=by omega
   have HF:Hid (jZ B w wr p o most (kP most x l s)):=by
    have:=HW.out
    rw[e,List.take_length] at this
    exact this
   clear HW
   go_wp2
   go_end0
   exact⟨rfl,HF.out⟩
def j4 (elem:Int) (v:V3):Int:=if legalB v.1 && decide (v.1≠elem) then 60 else jY v
theorem dW (elem:Int) (v:V3) (pa:Addr) (w:World) (he:w.cell? pa=some (.int .i64 elem)):Calls prog 170 #[vV v,.pointer (some pa)] w fun r w'=>r=.returned (.int .i64 (j4 elem v))∧jA w w':=by
 obtain⟨ty,wd,n⟩:=v
 have H0:Hid (jA w (w.alloc (.cells #[.int .i64 ty,.int .i64 wd,.int .u64 n] 65))):=(jA.refl w).alloc _
 show Calls prog 170 #[.agg #[.int .i64 ty,.int .i64 wd,.int .u64 n],.pointer (some pa)] w _
 go_enter func170,ntmps170
 go_wp2_with fail
 refine (Ft.legal_any ty _).mono ?_
 by_cases hl:legalB ty=true
 ·rw[hl]
  rintro r w1 ⟨rfl,hg⟩
  have c0:w1.cell? ⟨w.heap.size,0,none⟩=some (.int .i64 ty):=hg.cell (by go_simp)
  have c1:w1.cell? ⟨w.heap.size,1,none⟩=some (.int .i64 wd):=hg.cell (by go_simp)
  have c2:w1.cell? ⟨w.heap.size,2,none⟩=some (.int .u64 n):=hg.cell (by go_simp)
  have ce:w1.cell? pa=some (.int .i64 elem):=hg.cell (H0.out.cell he)
  have HG:=zh (H0.out.trans hg)
  clear hg
  by_cases hne:ty=elem
  ·have HE:Hid (j4 elem (ty,wd,n)=jY (ty,wd,n)):=by show _=_;simp[j4,hne]
   subst hne
   go_wp2_with fail
   refine (Y2 (ty,wd,n) _).mono ?_
   rintro r w2 ⟨rfl,hg⟩
   have HG2:=zh (HG.out.trans hg)
   clear hg
   go_wp2
   go_ret
   exact⟨by rw[HE.out];rfl,HG2.out⟩
  ·have HE:Hid (j4 elem (ty,wd,n)=60):=by show _=_;simp[j4,hl,hne]
   go_wp2
   go_ret
   exact⟨by rw[HE.out];rfl,HG.out⟩
 ·have hl':legalB ty=false:=by simpa using hl
  rw[hl']
  rintro r w1 ⟨rfl,hg⟩
  have c0:w1.cell? ⟨w.heap.size,0,none⟩=some (.int .i64 ty):=hg.cell (by go_simp)
  have c1:w1.cell? ⟨w.heap.size,1,none⟩=some (.int .i64 wd):=hg.cell (by go_simp)
  have c2:w1.cell? ⟨w.heap.size,2,none⟩=some (.int .u64 n):=hg.cell (by go_simp)
  have HE:Hid (j4 elem (ty,wd,n)=jY (ty,wd,n)):=by show _=_;simp[j4,hl']
  have HG:=zh (H0.out.trans hg)
  clear hg
  go_wp2_with fail
  refine (Y2 (ty,wd,n) _).mono ?_
  rintro r w2 ⟨rfl,hg⟩
  have HG2:=zh (HG.out.trans hg)
  clear hg
  go_wp2
  go_ret
  exact⟨by rw[HE.out];rfl,HG2.out⟩
abbrev fnv (k:Nat) (cap:Array Value):Value:=.func (.func k) #[] cap
theorem o8 (w:World):Calls prog 122 #[.int .i64 (-1),.int .i64 0] w fun r w'=>r=.returned (.tuple #[.agg #[.int .i64 10,.bool true,fnv 167 #[],fnv 168 #[]],.int .i64 0])∧jA w w':=by
 go_enter func122,ntmps122
 go_wp2
 refine bodyPost_ret (v:=.tuple #[.agg #[.int .i64 10,.bool true,fnv 167 #[],fnv 168 #[]],.int .i64 0]) ?_ rfl ⟨rfl,?_⟩
 ·simp[results,results122,go_sem,fnv]
 ·exact ((jA.refl w).alloc _).alloc _
end Go.Proofs.YtjnpcddbgfmpcaaGreatDoor
namespace Go.Proofs.YtjnpcddbgfmpcaaGreatDoor
open Go.Proofs.Tryz
open Go Go.ChangeShapes Go.WideShapes Go.ChangeAt Go.RowKit Go.Joins
open Go.Proofs.YtjnpcddbgfmpcaaGreatDoor.Ft (V3 vV okV ValsAt inlineB legalB packF codeF typedF)
def fQ (elem many:Int) (n:Nat):Value:=if (typedF elem many).2=true then .tuple #[.agg #[.int .i64 (typedF elem many).1,.bool (many == 0),fnv 170 #[.pointer (some ⟨n,0,none⟩)],fnv 171 #[]],.int .i64 0] else .tuple #[.agg #[.int .i64 0,.bool false,.nilFunc,.nilFunc],.int .i64 20]
theorem dX (elem many:Int) (h:¬(elem = -1∧many=0)) (w:World):Calls prog 122 #[.int .i64 elem,.int .i64 many] w fun r w'=>r=.returned (fQ elem many w.heap.size)∧jA w w'∧w'.cell? ⟨w.heap.size,0,none⟩=some (.int .i64 elem)∧w.heap.size < w'.heap.size:=by
 unfold fQ
 have HTY:=fun w'=>Ft.typed_any elem many w'
 generalize typedF elem many=tq at *
 obtain⟨tt,tb⟩:=tq
 simp only at HTY
 have HY:=zh HTY
 clear HTY
 by_cases he:elem = -1
 ·have hm:¬many=0:=fun x=>h ⟨he,x⟩
  clear h
  subst he
  cases tb
  ·go_enter func122,ntmps122
   go_wp2_with fail
   refine (HY.out _).mono ?_
   rintro r w1 ⟨rfl,hg⟩
   have c0:w1.cell? ⟨w.heap.size,0,none⟩=some (.int .i64 (-1)):=hg.cell (by go_simp)
   have HG:Hid (jA w w1):=(((jA.refl w).alloc _).alloc _).trans hg
   have HSZ:=hg.size
   have hb:w1.heap[w.heap.size+1]? = some (.cells #[.int .i64 0,.bool false,.nilFunc,.nilFunc] 160):=hg.heap (by rw[show w.heap.size+1=(w.alloc (.cells #[.int .i64 (-1)] 3)).heap.size by simp];exact heap_alloc_new _ _)
   have f4:=jE hb 0
   have f5:=jE hb 1
   have f6:=jE hb 2
   have f7:=jE hb 3
   clear hb
   have c4:w1.cell? ⟨w.heap.size+1,0,none⟩=some (.int .i64 0):=hg.cell (by go_simp)
   have c5:w1.cell? ⟨w.heap.size+1,1,none⟩=some (.bool false):=hg.cell (by go_simp)
   have c6:w1.cell? ⟨w.heap.size+1,2,none⟩=some .nilFunc:=hg.cell (by go_simp)
   have c7:w1.cell? ⟨w.heap.size+1,3,none⟩=some .nilFunc:=hg.cell (by go_simp)
   go_wp2
   refine bodyPost_ret (v:=.tuple #[.agg #[.int .i64 0,.bool false,.nilFunc,.nilFunc],.int .i64 20]) ?_ rfl ⟨by simp,?_,?_,?_⟩
   ·simp[results,results122,go_sem,fnv,c4,c5,c6,c7,hm]
   ·exact (((HG.out.setCell (by simp) _).setCell (by simp) _).setCell (by simp) _).setCell (by simp) _
   ·go_simp
   ·simp at HSZ⊢;omega
  ·go_enter func122,ntmps122
   go_wp2_with fail
   refine (HY.out _).mono ?_
   rintro r w1 ⟨rfl,hg⟩
   have c0:w1.cell? ⟨w.heap.size,0,none⟩=some (.int .i64 (-1)):=hg.cell (by go_simp)
   have HG:Hid (jA w w1):=(((jA.refl w).alloc _).alloc _).trans hg
   have HSZ:=hg.size
   have hb:w1.heap[w.heap.size+1]? = some (.cells #[.int .i64 0,.bool false,.nilFunc,.nilFunc] 160):=hg.heap (by rw[show w.heap.size+1=(w.alloc (.cells #[.int .i64 (-1)] 3)).heap.size by simp];exact heap_alloc_new _ _)
   have f4:=jE hb 0
   have f5:=jE hb 1
   have f6:=jE hb 2
   have f7:=jE hb 3
   clear hb
   have c4:w1.cell? ⟨w.heap.size+1,0,none⟩=some (.int .i64 0):=hg.cell (by go_simp)
   have c5:w1.cell? ⟨w.heap.size+1,1,none⟩=some (.bool false):=hg.cell (by go_simp)
   have c6:w1.cell? ⟨w.heap.size+1,2,none⟩=some .nilFunc:=hg.cell (by go_simp)
   have c7:w1.cell? ⟨w.heap.size+1,3,none⟩=some .nilFunc:=hg.cell (by go_simp)
   go_wp2
   refine bodyPost_ret (v:=.tuple #[.agg #[.int .i64 tt,.bool (many == 0),fnv 170 #[.pointer (some ⟨w.heap.size,0,none⟩)],fnv 171 #[]],.int .i64 0]) ?_ rfl ⟨by simp[fnv,hm],?_,?_,?_⟩
   ·simp[results,results122,go_sem,fnv,c4,c5,c6,c7,hm]
   ·exact (((HG.out.setCell (by simp) _).setCell (by simp) _).setCell (by simp) _).setCell (by simp) _
   ·go_simp
   ·simp at HSZ⊢;omega
 ·clear h
  cases tb
  ·go_enter func122,ntmps122
   go_wp2_with fail
   refine (HY.out _).mono ?_
   rintro r w1 ⟨rfl,hg⟩
   have c0:w1.cell? ⟨w.heap.size,0,none⟩=some (.int .i64 elem):=hg.cell (by go_simp)
   have HG:Hid (jA w w1):=(((jA.refl w).alloc _).alloc _).trans hg
   have HSZ:=hg.size
   have hb:w1.heap[w.heap.size+1]? = some (.cells #[.int .i64 0,.bool false,.nilFunc,.nilFunc] 160):=hg.heap (by rw[show w.heap.size+1=(w.alloc (.cells #[.int .i64 elem] 3)).heap.size by simp];exact heap_alloc_new _ _)
   have f4:=jE hb 0
   have f5:=jE hb 1
   have f6:=jE hb 2
   have f7:=jE hb 3
   clear hb
   have c4:w1.cell? ⟨w.heap.size+1,0,none⟩=some (.int .i64 0):=hg.cell (by go_simp)
   have c5:w1.cell? ⟨w.heap.size+1,1,none⟩=some (.bool false):=hg.cell (by go_simp)
   have c6:w1.cell? ⟨w.heap.size+1,2,none⟩=some .nilFunc:=hg.cell (by go_simp)
   have c7:w1.cell? ⟨w.heap.size+1,3,none⟩=some .nilFunc:=hg.cell (by go_simp)
   go_wp2
   refine bodyPost_ret (v:=.tuple #[.agg #[.int .i64 0,.bool false,.nilFunc,.nilFunc],.int .i64 20]) ?_ rfl ⟨by simp,?_,?_,?_⟩
   ·simp[results,results122,go_sem,fnv,c4,c5,c6,c7]
   ·exact (((HG.out.setCell (by simp) _).setCell (by simp) _).setCell (by simp) _).setCell (by simp) _
   ·go_simp
   ·simp at HSZ⊢;omega
  ·go_enter func122,ntmps122
   go_wp2_with fail
   refine (HY.out _).mono ?_
   rintro r w1 ⟨rfl,hg⟩
   have c0:w1.cell? ⟨w.heap.size,0,none⟩=some (.int .i64 elem):=hg.cell (by go_simp)
   have HG:Hid (jA w w1):=(((jA.refl w).alloc _).alloc _).trans hg
   have HSZ:=hg.size
   have hb:w1.heap[w.heap.size+1]? = some (.cells #[.int .i64 0,.bool false,.nilFunc,.nilFunc] 160):=hg.heap (by rw[show w.heap.size+1=(w.alloc (.cells #[.int .i64 elem] 3)).heap.size by simp];exact heap_alloc_new _ _)
   have f4:=jE hb 0
   have f5:=jE hb 1
   have f6:=jE hb 2
   have f7:=jE hb 3
   clear hb
   have c4:w1.cell? ⟨w.heap.size+1,0,none⟩=some (.int .i64 0):=hg.cell (by go_simp)
   have c5:w1.cell? ⟨w.heap.size+1,1,none⟩=some (.bool false):=hg.cell (by go_simp)
   have c6:w1.cell? ⟨w.heap.size+1,2,none⟩=some .nilFunc:=hg.cell (by go_simp)
   have c7:w1.cell? ⟨w.heap.size+1,3,none⟩=some .nilFunc:=hg.cell (by go_simp)
   go_wp2
   refine bodyPost_ret (v:=.tuple #[.agg #[.int .i64 tt,.bool (many == 0),fnv 170 #[.pointer (some ⟨w.heap.size,0,none⟩)],fnv 171 #[]],.int .i64 0]) ?_ rfl ⟨by simp[fnv],?_,?_,?_⟩
   ·simp[results,results122,go_sem,fnv,c4,c5,c6,c7]
   ·exact (((HG.out.setCell (by simp) _).setCell (by simp) _).setCell (by simp) _).setCell (by simp) _
   ·go_simp
   ·simp at HSZ⊢;omega
theorem bL (a b c:Value) (w:World):Calls prog 171 #[a,b,c] w fun r w'=>r=.returned (.tuple #[])∧jA w w':=by
 go_enter func171,ntmps171
 go_wp2
 first | go_end0 | refine bodyPost_ret (results_none rfl _ _ _) rfl ?_
 exact⟨rfl,jA.refl _⟩
end Go.Proofs.YtjnpcddbgfmpcaaGreatDoor
namespace Go.Proofs.YtjnpcddbgfmpcaaGreatDoor
open Go.Proofs.Tryz
open Go Go.ChangeShapes Go.WideShapes Go.ChangeAt Go.RowKit Go.Joins
open Go.Proofs.YtjnpcddbgfmpcaaGreatDoor.Ft (V3 vV okV ValsAt inlineB legalB packF codeF typedF allF)
theorem jK {w:World} {p:Nat} {cs:Array Value} {t:TypeId} (h:w.heap[p]? = some (.cells cs t (0,0))) (k:Nat) (v:Value) (hv:cs[k]? = some v):w.cell? ⟨p,k,none⟩=some v:=by
 simp[World.cell?,h,hv]
def zA (T:V3→Int) (e:Int) (l:List V3):Int:=l.foldl (fun e v=>if e=0 then T v else e) e
theorem VY (T:V3→Int) {e:Int} (h:e≠0):∀l:List V3,zA T e l=e
 | []=>rfl
 | v::r=>by
  show zA T (if e=0 then T v else e) r=e
  rw[if_neg h]
  exact VY T h r
theorem KY (T:V3→Int) (e:Int) (l:List V3) (k:Nat) (h:zA T e (l.take k)≠0):zA T e l=zA T e (l.take k):=by
 have:=VY T h (l.drop k)
 unfold zA at *
 rw[← List.foldl_append,List.take_append_drop] at this
 exact this
theorem KZ (T:V3→Int) (e:Int) (l:List V3) (k:Nat) (h:k < l.length) (h0:zA T e (l.take k)=0):zA T e (l.take (k+1))=T l[k]:=by
 unfold zA at *
 rw[List.take_succ_eq_append_getElem h,List.foldl_append]
 simp only[List.foldl_cons,List.foldl_nil]
 rw[if_pos h0]
def zE (most:Int) (T:V3→Int) (len jT:Bool) (kind e0:Int) (l:List V3) (s:St):(V3 × Int) × St:=
 if zA T e0 l≠0 then (((0,0,0),zA T e0 l),s) else
 let x:=allF l (0,0,0) s.1.length (if len then 1 else 0)
 if x=0 then (((0,0,0),211),s) else
 let s1:=jG most x s
 let s2:=if len then jW most x l.length s1 else s1
 let s3:=jU most x l s2
 let s4:=if jT then kP most x l s3 else s3
 if s4.2≠0 then (((0,0,0),s4.2),s4) else (((kind,x,(s2.1.length:Int)),0),s4)
theorem KJ {l:List V3} {k:V3} {a b:Int} (h:allF l k a b≠0):isW (allF l k a b)=true:=by
 revert h
 unfold allF Ft.leastOf
 repeat' split
 all_goals simp[isW]
def Mid (B:Nat) (w:World) (p:Nat) (o:Option Nat) (most:Int) (lv:Value) (l:List V3) (nR nS:Nat) (kind:Int) (len:Bool) (tg:Value) (s:St) (o':Option Nat) (wn:World):Prop:=
 kU B wn p o' s.1 most s.2∧zO w o o'∧Moved (qH p o) w wn∧(∀b,(b=nR∨b=nS∨∃ad n c,lv=.slice (some ad) n c∧ad.block=b)→b < wn.heap.size∧¬qH p o' b)∧ValsAt wn lv l ∧
  wn.heap[nR]? = some (.cells #[.int .i64 0,.int .i64 0,.int .u64 0] 65)∧wn.cell? ⟨nS,0,none⟩=some (.int .i64 kind)∧wn.cell? ⟨nS,1,none⟩=some (.bool len)∧wn.cell? ⟨nS,3,none⟩=some tg
theorem JS {w w':World} {S:Nat→Prop} {lv:Value} {l:List V3} (h:ValsAt w lv l) (hm:Moved S w w') (hap:∀ad n c,lv=.slice (some ad) n c→¬S ad.block):ValsAt w' lv l:=by
 obtain⟨a,c,rfl,hc⟩:=h
 refine⟨a,c,rfl,fun i x hx=>?_⟩
 obtain⟨b,off,rfl,h0,h1,h2⟩:=hc i x hx
 have hn:¬S b:=hap ⟨b,off,none⟩ _ _ rfl
 exact⟨b,off,rfl,hm.cell h0 hn,hm.cell h1 hn,hm.cell h2 hn⟩
theorem Mid.step {B:Nat} {w:World} {p:Nat} {o:Option Nat} {most:Int} {lv:Value} {l:List V3} {nR nS:Nat} {kind:Int} {len:Bool} {tg:Value} {s s':St} {o':Option Nat} {wn wm:World} (h:Mid B w p o most lv l nR nS kind len tg s o' wn) (ht:jZ B wn wm p o' most s') :
 ∃o2,Mid B w p o most lv l nR nS kind len tg s' o2 wm:=by
 obtain⟨hb,hn,hm,hk,hv,hr,g0,g1,g3⟩:=h
 obtain⟨o2,b2,n2,m2⟩:=ht
 have kR:=(hk nR (.inl rfl)).2
 have kS:=(hk nS (.inr (.inl rfl))).2
 refine⟨o2,b2,hn.trans n2 hm.size,hm.own hn m2,fun b hb=>?_,JS hv m2 fun ad n c e=>(hk _ (.inr (.inr ⟨ad,n,c,e,rfl⟩))).2,m2.heap hr kR,m2.cell g0 kS,m2.cell g1 kS,m2.cell g3 kS⟩
 have h1:=hk b hb
 refine⟨Nat.lt_of_lt_of_le h1.1 m2.size,?_⟩
 rintro (e|e)
 ·exact h1.2 (.inl e)
 ·rcases n2 b e.symm with e2|e2
  ·exact h1.2 (.inr e2.symm)
  ·omega
theorem Mid.turnSet {B:Nat} {w:World} {p:Nat} {o:Option Nat} {most:Int} {lv:Value} {l:List V3} {nR nS:Nat} {kind:Int} {len:Bool} {tg:Value} {s:St} {o':Option Nat} {wn:World} (h:Mid B w p o most lv l nR nS kind len tg s o' wn) (hge:w.heap.size≤nR) (v0 v1 v2:Value) :
 jZ B w (((wn.setCell ⟨nR,0,none⟩ v0).setCell ⟨nR,1,none⟩ v1).setCell ⟨nR,2,none⟩ v2) p o most s:=by
 obtain⟨hb,hn,hm,hk,_⟩:=h
 have kR:=(hk nR (.inl rfl)).2
 have m:Moved (fun k=>k=nR) wn (((wn.setCell ⟨nR,0,none⟩ v0).setCell ⟨nR,1,none⟩ v1).setCell ⟨nR,2,none⟩ v2):=
  Moved.setCell (S:=fun k=>k=nR) (p:=⟨nR,2,none⟩) (Moved.setCell (S:=fun k=>k=nR) (p:=⟨nR,1,none⟩) (Moved.setCell (S:=fun k=>k=nR) (p:=⟨nR,0,none⟩) (Moved.refl _ wn) (fun _=>rfl) v0) (fun _=>rfl) v1) (fun _=>rfl) v2
 refine⟨o',hb.kept m (fun e=>kR (.inl e.symm)) (fun k e e2=>kR (.inr (by rw[e,e2]))),hn,hm.trans m fun j hj e=>by omega⟩
theorem ok0:okV (0,0,0):=by unfold okV;simp
def zS (q:V3 × Int):Value:=.tuple #[vV q.1,.int .i64 q.2]
theorem put_un {B:Nat} {w:World} {p:Nat} {o:Option Nat} {most:Int} (s:St) (lv:Value) (l:List V3) (h:kU B w p o s.1 most s.2) (hB:B≤w.heap.size) (hl:(s.1.length:Int)≤most) (hm1:most≤1048576)
 (hv:ValsAt w lv l) (j8:l.length≤1048576) (hok:∀v∈l,okV v) (hap:∀ad n c,lv=.slice (some ad) n c→ad.block < w.heap.size∧¬qH p o ad.block) (hs:s.2=0) :
 Calls prog 84 #[jF p,.int .i64 (-1),.int .i64 0,lv] w fun r w'=>r=.returned (zS (zE most jY true true 10 0 l s).1)∧jZ B w w' p o most (zE most jY true true 10 0 l s).2:=by
 have HB0:=zh h
 have HA:=zh hap
 have HOK:=zh hok
 have HV:=zh hv
 obtain⟨a,c,rfl,j2⟩:=hv
 have HC:=zh j2
 have HP:=zh (rfl:zE most jY true true 10 0 l s=zE most jY true true 10 0 l s)
 generalize hP:zE most jY true true 10 0 l s=P
 have HPP:=zh hP
 clear h hap hok j2 HP hP
 go_enter func84,ntmps84
 go_wp2_with fail
 refine (qB (HB0.out.grew ((jA.refl w).alloc _))).mono ?_
 rw[hs]
 rintro r w1 ⟨rfl,rfl⟩
 go_wp2_with fail
 refine (o8 _).mono ?_
 rintro r w1 ⟨rfl,hg⟩
 have hb:w1.heap[w.heap.size]? = some (.cells #[.int .i64 0,.int .i64 0,.int .u64 0] 65):=hg.heap (heap_alloc_new _ _)
 have HR:=zh hb
 have HG:Hid (jA w w1):=((jA.refl w).alloc _).trans hg
 have HSZ:=zh hg.size
 clear hb hg
 go_wp2_with fail
 go_loopw [12,13] (fun e i wr=>∃k:Nat,k≤l.length∧i=.int .i64 k∧e=.int .i64 (zA jY 0 (l.take k))∧Hid (jA w wr∧wr.heap[w.heap.size]? = some (.cells #[.int .i64 0,.int .i64 0,.int .u64 0] 65)∧wr.cell? ⟨w1.heap.size,0,none⟩=some (.int .i64 10)∧wr.cell? ⟨w1.heap.size,1,none⟩=some (.bool true)∧wr.cell? ⟨w1.heap.size,2,none⟩=some (fnv 167 #[])∧wr.cell? ⟨w1.heap.size,3,none⟩=some (fnv 168 #[]))) (fun _ i _=>l.length - (intOf i).toNat)
 case atStart=>
  refine⟨0,Nat.zero_le _,rfl,rfl,?_⟩
  show _∧_
  exact⟨HG.out.alloc _,((jA.refl w1).alloc _).heap HR.out,by go_simp,by go_simp,by go_simp,by go_simp⟩
 case round=>
  obtain⟨k,hk,rfl,rfl,HW⟩:=hrel
  by_cases hlt:k < l.length
  ·by_cases he:zA jY 0 (l.take k)=0
   ·obtain⟨bl,off,rfl,q0,q1,q2⟩:=HC.out k l[k] (List.getElem?_eq_getElem hlt)
    have HSN:=zh (KZ jY 0 l k hlt he)
    have d0:=HW.out.1.cell q0
    have d1:=HW.out.1.cell q1
    have d2:=HW.out.1.cell q2
    have g2:=HW.out.2.2.2.2.1
    rw[he]
    generalize l[k]=v at *
    obtain⟨ty,wd,vn⟩:=v
    simp only at d0 d1 d2
    clear q0 q1 q2
    go_wp2_with fail
    refine k8 jA [[],[0],[],[],[2,3],[4],[1,5],[6]] [[(54,2),(55,3),(56,4),(57,5),(58,6),(12,7)],[(52,0),(54,2),(55,3),(56,4),(57,5),(12,7)],[(52,0),(53,1),(55,3),(57,5),(58,6),(12,7)],[(52,0),(53,1),(54,2),(57,5),(58,6),(12,7)],[(52,0),(53,1),(54,2),(55,3),(58,6),(12,7)],[(52,0),(53,1),(54,2),(55,3),(56,4),(12,7)],[(52,0),(53,1),(54,2),(55,3),(56,4),(57,5)],[(52,0),(53,1),(54,2),(55,3),(56,4),(57,5),(58,6)]] [(52,0),(53,1),(54,2),(55,3),(56,4),(57,5),(58,6),(12,7)]
     [Is (.pointer (some ⟨w1.heap.size,2,none⟩)),Is (fnv 167 #[]),Is (.slice (some ⟨bl,off,none⟩) l.length c),Is (.int .i64 k),Is (.pointer (some ⟨bl,off+k*3,none⟩)),Is (.agg #[.int .i64 ty,.int .i64 wd,.int .u64 vn]),Is (.int .i64 (jY (ty,wd,vn))),Is (.int .i64 (jY (ty,wd,vn)))]
     zk jA.trans jA.refl (jA.refl _).drew zk ⟨jS,jS,jS,jS,jS,jS,jS,jS,trivial⟩ ⟨?_,?_,?_,?_,?_,?_,?_,?_,trivial⟩ rfl ?_
    ·exact zst
    ·intro y w2 hG hD K hK
     have dg2:=hG.cell g2
     have dd0:=hG.cell d0
     have dd1:=hG.cell d1
     have dd2:=hG.cell d2
     exact zsr
    ·exact zst
    ·exact zst
    ·exact zst
    ·intro y w2 hG hD K hK
     have dg2:=hG.cell g2
     have dd0:=hG.cell d0
     have dd1:=hG.cell d1
     have dd2:=hG.cell d2
     exact zsr
    ·intro y w2 hG hD K hK
     simp only[zD,zq4,zq5,Is,and_true] at hD
     simp only[jB,Act.put,zq1,zq2,zq3,zq4,zq5,Is] at hK⊢
     simp only[hD] at hK⊢
     clear hD
     refine jL ?_
     go_simp
     refine (Y2 (ty,wd,vn) _).mono ?_
     rintro r w3 ⟨rfl,hg⟩
     exact hK _ _ _ rfl hg rfl
    ·exact zst
    ·intro y w2 hG hF
     simp only[yV,Is,and_true,Nat.reduceAdd] at hF
     have h0:=hF.1
     have h1:=hF.2.1
     have h2:=hF.2.2.1
     have h3:=hF.2.2.2.1
     have h4:=hF.2.2.2.2.1
     have h5:=hF.2.2.2.2.2.1
     have h6:=hF.2.2.2.2.2.2.1
     have h7:=hF.2.2.2.2.2.2.2
     clear hF
     simp only[jB,Act.put,zq1,zq2,zq3,zq4,zq5,Is]
     rw[h0,h1,h2,h3,h4,h5,h6,h7]
     clear h0 h1 h2 h3 h4 h5 h6 h7
     have HG2:=zh (HW.out.1.trans hG)
     have HGG:=zh hG
     clear hG
     go_wp2
     go_roundw
     case rel=>
      have hw:=HW.out
      have hgg:=HGG.out
      exact⟨k+1,by omega,by go_num,by rw[HSN.out],HG2.out,hgg.heap hw.2.1,hgg.cell hw.2.2.1,hgg.cell hw.2.2.2.1,hgg.cell hw.2.2.2.2.1,hgg.cell hw.2.2.2.2.2⟩
     case measure=>simp[intOf];omega
   ·have hF:zE most jY true true 10 0 l s=(((0,0,0),zA jY 0 (l.take k)),s):=by
     unfold zE
     rw[KY jY 0 l k he,if_pos he]
    have HF:=zh hF
    clear hF
    generalize zA jY 0 (l.take k)=e at *
    obtain⟨hgw,jJ,_,_,_,_⟩:=HW.out
    have f0:=jE jJ 0
    have f1:=jE jJ 1
    have f2:=jE jJ 2
    have c0:=jK jJ 0 _ rfl
    have c1:=jK jJ 1 _ rfl
    have c2:=jK jJ 2 _ rfl
    have HGW:=zh hgw
    clear jJ hgw
    go_wp2
    refine bodyPost_ret (v:=zS ((0,0,0),e)) ?_ rfl ⟨?_,?_⟩
    ·simp[results,results84,go_sem,c0,c1,c2,zS,vV]
    ·rw[← HPP.out,HF.out]
    ·rw[← HPP.out,HF.out]
     exact (jZ.refl HB0.out).grew ((((HGW.out).setCell (Nat.le_refl _) _).setCell (Nat.le_refl _) _).setCell (Nat.le_refl _) _)
  ·have ek:k=l.length:=by omega
   rw[ek,List.take_length]
   by_cases he:zA jY 0 l=0
   ·rw[he]
    clear hlt
    obtain⟨hgw,jJ,g0,g1,g2,g3⟩:=HW.out
    have HGW:=zh hgw
    have HROW:=zh jJ
    clear jJ hgw HW
    go_wp2_with fail
    refine (yY (HB0.out.grew HGW.out)).mono ?_
    rintro r w3 ⟨rfl,rfl⟩
    go_wp2_with fail
    refine (Ft.all_any l (0,0,0) _ 1 _ _ (by omega) HOK.out ok0 (HV.out.grew HGW.out)).mono ?_
    rintro r w3 ⟨rfl,hg⟩
    have HG3:=zh (HGW.out.trans hg)
    have HROW3:=zh (hg.heap HROW.out)
    replace g0:=hg.cell g0
    replace g1:=hg.cell g1
    replace g3:=hg.cell g3
    clear hg g2
    by_cases hx:allF l (0,0,0) s.1.length 1=0
    ·have hF:zE most jY true true 10 0 l s=(((0,0,0),211),s):=by
      unfold zE
      rw[if_neg (by simpa using he)]
      simp[hx]
     have HF:=zh hF
     clear hF
     rw[hx]
     have jJ:=HROW3.out
     have f0:=jE jJ 0
     have f1:=jE jJ 1
     have f2:=jE jJ 2
     have c0:=jK jJ 0 _ rfl
     have c1:=jK jJ 1 _ rfl
     have c2:=jK jJ 2 _ rfl
     clear jJ
     go_wp2
     refine bodyPost_ret (v:=zS ((0,0,0),211)) ?_ rfl ⟨?_,?_⟩
     ·simp[results,results84,go_sem,c0,c1,c2,zS,vV]
     ·rw[← HPP.out,HF.out]
     ·rw[← HPP.out,HF.out]
      exact (jZ.refl HB0.out).grew ((((HG3.out).setCell (Nat.le_refl _) _).setCell (Nat.le_refl _) _).setCell (Nat.le_refl _) _)
    ·have HX:=zh (KJ hx)
     have HXE:=zh (rfl:allF l (0,0,0) s.1.length 1=allF l (0,0,0) s.1.length 1)
     have HF:Hid (∀x,allF l (0,0,0) s.1.length 1=x→x≠0→zE most jY true true 10 0 l s=if (kP most x l (jU most x l (jW most x l.length (jG most x s)))).2≠0 then (((0,0,0),(kP most x l (jU most x l (jW most x l.length (jG most x s)))).2),kP most x l (jU most x l (jW most x l.length (jG most x s)))) else (((10,x,((jW most x l.length (jG most x s)).1.length:Int)),0),kP most x l (jU most x l (jW most x l.length (jG most x s))))):=by
      show ∀x,_=x→_
      intro x hx hx0
      unfold zE
      rw[if_neg (by simpa using he)]
      simp only[if_true]
      rw[hx,if_neg hx0]
     replace HF:=zh (HF.out _ rfl hx)
     have M3:Mid B w p o most (.slice a l.length c) l w.heap.size w1.heap.size 10 true (fnv 168 #[]) s o w3:=by
      have hs3:=HG3.out.size
      have hlt1:=yE g0
      have hb0:=HB0.out.lt
      have hs1:=HG.out.size
      refine⟨HB0.out.grew HG3.out,zO.refl _ _,Moved.of_grew HG3.out,?_,HV.out.grew HG3.out,HROW3.out,g0,g1,g3⟩
      rintro b (rfl|rfl|⟨ad,n,c',e,rfl⟩)
      ·exact⟨by simp at hlt1;omega,fun h=>by have:=hb0 _ h;omega⟩
      ·exact⟨by simpa using hlt1,fun h=>by have:=hb0 _ h;omega⟩
      ·have:=HA.out ad n c' e
       exact⟨by omega,this.2⟩
     have HM3:=zh M3
     have HB3:B≤w3.heap.size:=Nat.le_trans hB HG3.out.size
     clear M3 HXE g0 g1 g3 HROW3 HROW HG3 HGW
     generalize allF l (0,0,0) s.1.length 1=x at *
     go_wp2_with fail
     refine (vD s x HM3.out.1 HB3 hl hm1).mono ?_
     rintro r w4 ⟨rfl,ht⟩
     have HB4:B≤w4.heap.size:=by obtain⟨_,_,_,m⟩:=ht;exact Nat.le_trans HB3 m.size
     obtain⟨o4,m4⟩:=HM3.out.step ht
     have g1:=m4.2.2.2.2.2.2.2.1
     have HM4:=zh m4
     clear ht m4
     go_wp2_with fail
     refine (yT (jG most x s) x (l.length:Int) HM4.out.1 HB4 (kT hl) hm1 (by omega) (by omega)).mono ?_
     rintro r w5 ⟨rfl,ht⟩
     have HB5:B≤w5.heap.size:=by obtain⟨_,_,_,m⟩:=ht;exact Nat.le_trans HB4 m.size
     obtain⟨o5,m5⟩:=HM4.out.step ht
     have HM5:=zh m5
     clear ht m5 g1
     go_wp2_with fail
     refine (yY HM5.out.1).mono ?_
     rintro r w6 ⟨rfl,rfl⟩
     go_wp2_with fail
     refine (KX (jW most x l.length (jG most x s)) x _ l HX.out HM5.out.1 HB5 (yA (kT hl)) hm1 HM5.out.2.2.2.2.1 j8 HOK.out (fun ad n c' e=>(HM5.out.2.2.2.1 _ (.inr (.inr ⟨ad,n,c',e,rfl⟩))).2)).mono ?_
     rintro r w6 ⟨rfl,ht⟩
     have HB6:B≤w6.heap.size:=by obtain⟨_,_,_,m⟩:=ht;exact Nat.le_trans HB5 m.size
     obtain⟨o6,m6⟩:=HM5.out.step ht
     have g3:=m6.2.2.2.2.2.2.2.2
     have HM6:=zh m6
     clear ht m6
     go_wp2_with fail
     refine (r4 (jU most x l (jW most x l.length (jG most x s))) x _ l HM6.out.1 HB6 (qP l (yA (kT hl))) hm1 HM6.out.2.2.2.2.1 j8 (fun ad n c' e=>(HM6.out.2.2.2.1 _ (.inr (.inr ⟨ad,n,c',e,rfl⟩))).2)).mono ?_
     rintro r w7 ⟨rfl,ht⟩
     obtain⟨o7,m7⟩:=HM6.out.step ht
     have g0:=m7.2.2.2.2.2.2.1
     have jJ:=m7.2.2.2.2.2.1
     have HM7:=zh m7
     clear ht m7 g3
     go_wp2_with fail
     refine (qB HM7.out.1).mono ?_
     rintro r w8 ⟨rfl,rfl⟩
     have hn2:=yA (x:=x) (u:=(l.length:Int)) (kT (x:=x) hl)
     by_cases hz:(kP most x l (jU most x l (jW most x l.length (jG most x s)))).2=0
     ·have HF2:Hid (zE most jY true true 10 0 l s=(((10,x,((jW most x l.length (jG most x s)).1.length:Int)),0),(kP most x l (jU most x l (jW most x l.length (jG most x s)))))):=HF.out.trans (if_neg (by simpa using hz))
      rw[hz]
      clear HF hz HM3 HM4 HM5 HM6
      generalize (kP most x l (jU most x l (jW most x l.length (jG most x s))))=sf at *
      generalize jW most x l.length (jG most x s)=s2 at *
      have f0:=jE jJ 0
      have f1:=jE jJ 1
      have f2:=jE jJ 2
      have c0:=jK jJ 0 _ rfl
      have c1:=jK jJ 1 _ rfl
      have c2:=jK jJ 2 _ rfl
      clear jJ
      go_wp2
      refine bodyPost_ret (v:=zS ((10,x,(s2.1.length:Int)),0)) ?_ rfl ⟨?_,?_⟩
      ·simp[results,results84,go_sem,c0,c1,c2,zS,vV]
      ·rw[← HPP.out,HF2.out]
      ·rw[← HPP.out,HF2.out]
       exact HM7.out.turnSet (Nat.le_refl _) _ _ _
     ·have HF2:Hid (zE most jY true true 10 0 l s=(((0,0,0),(kP most x l (jU most x l (jW most x l.length (jG most x s)))).2),(kP most x l (jU most x l (jW most x l.length (jG most x s)))))):=HF.out.trans (if_pos (by simpa using hz))
      clear HF HM3 HM4 HM5 HM6
      generalize (kP most x l (jU most x l (jW most x l.length (jG most x s))))=sf at *
      have f0:=jE jJ 0
      have f1:=jE jJ 1
      have f2:=jE jJ 2
      have c0:=jK jJ 0 _ rfl
      have c1:=jK jJ 1 _ rfl
      have c2:=jK jJ 2 _ rfl
      clear jJ
      go_wp2
      refine bodyPost_ret (v:=zS ((0,0,0),sf.2)) ?_ rfl ⟨?_,?_⟩
      ·simp[results,results84,go_sem,c0,c1,c2,zS,vV]
      ·rw[← HPP.out,HF2.out]
      ·rw[← HPP.out,HF2.out]
       exact HM7.out.turnSet (Nat.le_refl _) _ _ _
   ·have hF:zE most jY true true 10 0 l s=(((0,0,0),zA jY 0 l),s):=by
     unfold zE
     rw[if_pos he]
    have HF:=zh hF
    clear hF
    generalize zA jY 0 l=e at *
    obtain⟨hgw,jJ,_,_,_,_⟩:=HW.out
    have f0:=jE jJ 0
    have f1:=jE jJ 1
    have f2:=jE jJ 2
    have c0:=jK jJ 0 _ rfl
    have c1:=jK jJ 1 _ rfl
    have c2:=jK jJ 2 _ rfl
    have HGW:=zh hgw
    clear jJ hgw
    go_wp2
    refine bodyPost_ret (v:=zS ((0,0,0),e)) ?_ rfl ⟨?_,?_⟩
    ·simp[results,results84,go_sem,c0,c1,c2,zS,vV]
    ·rw[← HPP.out,HF.out]
    ·rw[← HPP.out,HF.out]
     exact (jZ.refl HB0.out).grew ((((HGW.out).setCell (Nat.le_refl _) _).setCell (Nat.le_refl _) _).setCell (Nat.le_refl _) _)
theorem r5 (elem kd:Int) (hkd:typedF elem 0=(kd,true)) (hne:elem≠-1) (w:World) (n:Nat) (hn:n=w.heap.size):Calls prog 122 #[.int .i64 elem,.int .i64 0] w fun r w'=>r=.returned (.tuple #[.agg #[.int .i64 kd,.bool true,fnv 170 #[.pointer (some ⟨n,0,none⟩)],fnv 171 #[]],.int .i64 0])∧jA w w'∧w'.cell? ⟨n,0,none⟩=some (.int .i64 elem):=by
 subst hn
 refine (dX elem 0 (fun h=>hne h.1) w).mono ?_
 rintro r w' ⟨rfl,hg,hc,_⟩
 refine⟨?_,hg,hc⟩
 unfold fQ
 rw[hkd]
 rfl
theorem put_ty0 (elem kd:Int) (hkd:typedF elem 0=(kd,true)) (hne:elem≠-1) {B:Nat} {w:World} {p:Nat} {o:Option Nat} {most:Int} (s:St) (lv:Value) (l:List V3) (h:kU B w p o s.1 most s.2) (hB:B≤w.heap.size) (hl:(s.1.length:Int)≤most) (hm1:most≤1048576)
 (hv:ValsAt w lv l) (j8:l.length≤1048576) (hok:∀v∈l,okV v) (hap:∀ad n c,lv=.slice (some ad) n c→ad.block < w.heap.size∧¬qH p o ad.block) (hs:s.2=0) :
 Calls prog 84 #[jF p,.int .i64 elem,.int .i64 0,lv] w fun r w'=>r=.returned (zS (zE most (j4 elem) true false kd 0 l s).1)∧jZ B w w' p o most (zE most (j4 elem) true false kd 0 l s).2:=by
 have HB0:=zh h
 have HA:=zh hap
 have HOK:=zh hok
 have HV:=zh hv
 obtain⟨a,c,rfl,j2⟩:=hv
 have HC:=zh j2
 have HP:=zh (rfl:zE most (j4 elem) true false kd 0 l s=zE most (j4 elem) true false kd 0 l s)
 generalize hP:zE most (j4 elem) true false kd 0 l s=P
 have HPP:=zh hP
 clear h hap hok j2 HP hP
 go_enter func84,ntmps84
 go_wp2_with fail
 refine (qB (HB0.out.grew ((jA.refl w).alloc _))).mono ?_
 rw[hs]
 rintro r w1 ⟨rfl,rfl⟩
 go_wp2_with fail
 refine (r5 elem kd hkd hne _ (w.heap.size+1) (by simp)).mono ?_
 rintro r w1 ⟨rfl,hg,hce⟩
 have HCE:=zh hce
 clear hce hkd
 have hb:w1.heap[w.heap.size]? = some (.cells #[.int .i64 0,.int .i64 0,.int .u64 0] 65):=hg.heap (heap_alloc_new _ _)
 have HR:=zh hb
 have HG:Hid (jA w w1):=((jA.refl w).alloc _).trans hg
 have HSZ:=zh hg.size
 clear hb hg
 go_wp2_with fail
 go_loopw [12,13] (fun e i wr=>∃k:Nat,k≤l.length∧i=.int .i64 k∧e=.int .i64 (zA (j4 elem) 0 (l.take k))∧Hid (jA w wr∧wr.heap[w.heap.size]? = some (.cells #[.int .i64 0,.int .i64 0,.int .u64 0] 65)∧wr.cell? ⟨w1.heap.size,0,none⟩=some (.int .i64 kd)∧wr.cell? ⟨w1.heap.size,1,none⟩=some (.bool true)∧wr.cell? ⟨w1.heap.size,2,none⟩=some (fnv 170 #[.pointer (some ⟨w.heap.size+1,0,none⟩)])∧wr.cell? ⟨w1.heap.size,3,none⟩=some (fnv 171 #[])∧wr.cell? ⟨w.heap.size+1,0,none⟩=some (.int .i64 elem))) (fun _ i _=>l.length - (intOf i).toNat)
 case atStart=>
  refine⟨0,Nat.zero_le _,rfl,rfl,?_⟩
  show _∧_
  exact⟨HG.out.alloc _,((jA.refl w1).alloc _).heap HR.out,by go_simp,by go_simp,by go_simp,by go_simp,((jA.refl w1).alloc _).cell HCE.out⟩
 case round=>
  obtain⟨k,hk,rfl,rfl,HW⟩:=hrel
  by_cases hlt:k < l.length
  ·by_cases he:zA (j4 elem) 0 (l.take k)=0
   ·obtain⟨bl,off,rfl,q0,q1,q2⟩:=HC.out k l[k] (List.getElem?_eq_getElem hlt)
    have HSN:=zh (KZ (j4 elem) 0 l k hlt he)
    have d0:=HW.out.1.cell q0
    have d1:=HW.out.1.cell q1
    have d2:=HW.out.1.cell q2
    have g2:=HW.out.2.2.2.2.1
    rw[he]
    generalize l[k]=v at *
    obtain⟨ty,wd,vn⟩:=v
    simp only at d0 d1 d2
    clear q0 q1 q2
    go_wp2_with fail
    refine k8 jA [[],[0],[],[],[2,3],[4],[1,5],[6]] [[(54,2),(55,3),(56,4),(57,5),(58,6),(12,7)],[(52,0),(54,2),(55,3),(56,4),(57,5),(12,7)],[(52,0),(53,1),(55,3),(57,5),(58,6),(12,7)],[(52,0),(53,1),(54,2),(57,5),(58,6),(12,7)],[(52,0),(53,1),(54,2),(55,3),(58,6),(12,7)],[(52,0),(53,1),(54,2),(55,3),(56,4),(12,7)],[(52,0),(53,1),(54,2),(55,3),(56,4),(57,5)],[(52,0),(53,1),(54,2),(55,3),(56,4),(57,5),(58,6)]] [(52,0),(53,1),(54,2),(55,3),(56,4),(57,5),(58,6),(12,7)]
     [Is (.pointer (some ⟨w1.heap.size,2,none⟩)),Is (fnv 170 #[.pointer (some ⟨w.heap.size+1,0,none⟩)]),Is (.slice (some ⟨bl,off,none⟩) l.length c),Is (.int .i64 k),Is (.pointer (some ⟨bl,off+k*3,none⟩)),Is (.agg #[.int .i64 ty,.int .i64 wd,.int .u64 vn]),Is (.int .i64 (j4 elem (ty,wd,vn))),Is (.int .i64 (j4 elem (ty,wd,vn)))]
     zk jA.trans jA.refl (jA.refl _).drew zk ⟨jS,jS,jS,jS,jS,jS,jS,jS,trivial⟩ ⟨?_,?_,?_,?_,?_,?_,?_,?_,trivial⟩ rfl ?_
    ·exact zst
    ·intro y w2 hG hD K hK
     have dg2:=hG.cell g2
     have dd0:=hG.cell d0
     have dd1:=hG.cell d1
     have dd2:=hG.cell d2
     exact zsr
    ·exact zst
    ·exact zst
    ·exact zst
    ·intro y w2 hG hD K hK
     have dg2:=hG.cell g2
     have dd0:=hG.cell d0
     have dd1:=hG.cell d1
     have dd2:=hG.cell d2
     exact zsr
    ·intro y w2 hG hD K hK
     simp only[zD,zq4,zq5,Is,and_true] at hD
     simp only[jB,Act.put,zq1,zq2,zq3,zq4,zq5,Is] at hK⊢
     simp only[hD] at hK⊢
     clear hD
     refine jL ?_
     go_simp
     refine (dW elem (ty,wd,vn) _ _ (hG.cell HW.out.2.2.2.2.2.2)).mono ?_
     rintro r w3 ⟨rfl,hg⟩
     exact hK _ _ _ rfl hg rfl
    ·exact zst
    ·intro y w2 hG hF
     simp only[yV,Is,and_true,Nat.reduceAdd] at hF
     have h0:=hF.1
     have h1:=hF.2.1
     have h2:=hF.2.2.1
     have h3:=hF.2.2.2.1
     have h4:=hF.2.2.2.2.1
     have h5:=hF.2.2.2.2.2.1
     have h6:=hF.2.2.2.2.2.2.1
     have h7:=hF.2.2.2.2.2.2.2
     clear hF
     simp only[jB,Act.put,zq1,zq2,zq3,zq4,zq5,Is]
     rw[h0,h1,h2,h3,h4,h5,h6,h7]
     clear h0 h1 h2 h3 h4 h5 h6 h7
     have HG2:=zh (HW.out.1.trans hG)
     have HGG:=zh hG
     clear hG
     go_wp2
     go_roundw
     case rel=>
      have hw:=HW.out
      have hgg:=HGG.out
      exact⟨k+1,by omega,by go_num,by rw[HSN.out],HG2.out,hgg.heap hw.2.1,hgg.cell hw.2.2.1,hgg.cell hw.2.2.2.1,hgg.cell hw.2.2.2.2.1,hgg.cell hw.2.2.2.2.2.1,hgg.cell hw.2.2.2.2.2.2⟩
     case measure=>simp[intOf];omega
   ·have hF:zE most (j4 elem) true false kd 0 l s=(((0,0,0),zA (j4 elem) 0 (l.take k)),s):=by
     unfold zE
     rw[KY (j4 elem) 0 l k he,if_pos he]
    have HF:=zh hF
    clear hF
    generalize zA (j4 elem) 0 (l.take k)=e at *
    obtain⟨hgw,jJ,_⟩:=HW.out
    have f0:=jE jJ 0
    have f1:=jE jJ 1
    have f2:=jE jJ 2
    have c0:=jK jJ 0 _ rfl
    have c1:=jK jJ 1 _ rfl
    have c2:=jK jJ 2 _ rfl
    have HGW:=zh hgw
    clear jJ hgw
    go_wp2
    refine bodyPost_ret (v:=zS ((0,0,0),e)) ?_ rfl ⟨?_,?_⟩
    ·simp[results,results84,go_sem,c0,c1,c2,zS,vV]
    ·rw[← HPP.out,HF.out]
    ·rw[← HPP.out,HF.out]
     exact (jZ.refl HB0.out).grew ((((HGW.out).setCell (Nat.le_refl _) _).setCell (Nat.le_refl _) _).setCell (Nat.le_refl _) _)
  ·have ek:k=l.length:=by omega
   rw[ek,List.take_length]
   by_cases he:zA (j4 elem) 0 l=0
   ·rw[he]
    clear hlt
    obtain⟨hgw,jJ,g0,g1,g2,g3,_⟩:=HW.out
    have HGW:=zh hgw
    have HROW:=zh jJ
    clear jJ hgw HW
    go_wp2_with fail
    refine (yY (HB0.out.grew HGW.out)).mono ?_
    rintro r w3 ⟨rfl,rfl⟩
    go_wp2_with fail
    refine (Ft.all_any l (0,0,0) _ 1 _ _ (by omega) HOK.out ok0 (HV.out.grew HGW.out)).mono ?_
    rintro r w3 ⟨rfl,hg⟩
    have HG3:=zh (HGW.out.trans hg)
    have HROW3:=zh (hg.heap HROW.out)
    replace g0:=hg.cell g0
    replace g1:=hg.cell g1
    replace g3:=hg.cell g3
    clear hg g2
    by_cases hx:allF l (0,0,0) s.1.length 1=0
    ·have hF:zE most (j4 elem) true false kd 0 l s=(((0,0,0),211),s):=by
      unfold zE
      rw[if_neg (by simpa using he)]
      simp[hx]
     have HF:=zh hF
     clear hF
     rw[hx]
     have jJ:=HROW3.out
     have f0:=jE jJ 0
     have f1:=jE jJ 1
     have f2:=jE jJ 2
     have c0:=jK jJ 0 _ rfl
     have c1:=jK jJ 1 _ rfl
     have c2:=jK jJ 2 _ rfl
     clear jJ
     go_wp2
     refine bodyPost_ret (v:=zS ((0,0,0),211)) ?_ rfl ⟨?_,?_⟩
     ·simp[results,results84,go_sem,c0,c1,c2,zS,vV]
     ·rw[← HPP.out,HF.out]
     ·rw[← HPP.out,HF.out]
      exact (jZ.refl HB0.out).grew ((((HG3.out).setCell (Nat.le_refl _) _).setCell (Nat.le_refl _) _).setCell (Nat.le_refl _) _)
    ·have HX:=zh (KJ hx)
     have HXE:=zh (rfl:allF l (0,0,0) s.1.length 1=allF l (0,0,0) s.1.length 1)
     have HF:Hid (∀x,allF l (0,0,0) s.1.length 1=x→x≠0→zE most (j4 elem) true false kd 0 l s=if (jU most x l (jW most x l.length (jG most x s))).2≠0 then (((0,0,0),(jU most x l (jW most x l.length (jG most x s))).2),jU most x l (jW most x l.length (jG most x s))) else (((kd,x,((jW most x l.length (jG most x s)).1.length:Int)),0),jU most x l (jW most x l.length (jG most x s)))):=by
      show ∀x,_=x→_
      intro x hx hx0
      unfold zE
      rw[if_neg (by simpa using he)]
      simp only[if_true,if_false,Bool.false_eq_true,if_neg]
      rw[hx,if_neg hx0]
     replace HF:=zh (HF.out _ rfl hx)
     have M3:Mid B w p o most (.slice a l.length c) l w.heap.size w1.heap.size kd true (fnv 171 #[]) s o w3:=by
      have hs3:=HG3.out.size
      have hlt1:=yE g0
      have hb0:=HB0.out.lt
      have hs1:=HG.out.size
      refine⟨HB0.out.grew HG3.out,zO.refl _ _,Moved.of_grew HG3.out,?_,HV.out.grew HG3.out,HROW3.out,g0,g1,g3⟩
      rintro b (rfl|rfl|⟨ad,n,c',e,rfl⟩)
      ·exact⟨by simp at hlt1;omega,fun h=>by have:=hb0 _ h;omega⟩
      ·exact⟨by simpa using hlt1,fun h=>by have:=hb0 _ h;omega⟩
      ·have:=HA.out ad n c' e
       exact⟨by omega,this.2⟩
     have HM3:=zh M3
     have HB3:B≤w3.heap.size:=Nat.le_trans hB HG3.out.size
     clear M3 HXE g0 g1 g3 HROW3 HROW HG3 HGW
     generalize allF l (0,0,0) s.1.length 1=x at *
     go_wp2_with fail
     refine (vD s x HM3.out.1 HB3 hl hm1).mono ?_
     rintro r w4 ⟨rfl,ht⟩
     have HB4:B≤w4.heap.size:=by obtain⟨_,_,_,m⟩:=ht;exact Nat.le_trans HB3 m.size
     obtain⟨o4,m4⟩:=HM3.out.step ht
     have g1:=m4.2.2.2.2.2.2.2.1
     have HM4:=zh m4
     clear ht m4
     go_wp2_with fail
     refine (yT (jG most x s) x (l.length:Int) HM4.out.1 HB4 (kT hl) hm1 (by omega) (by omega)).mono ?_
     rintro r w5 ⟨rfl,ht⟩
     have HB5:B≤w5.heap.size:=by obtain⟨_,_,_,m⟩:=ht;exact Nat.le_trans HB4 m.size
     obtain⟨o5,m5⟩:=HM4.out.step ht
     have HM5:=zh m5
     clear ht m5 g1
     go_wp2_with fail
     refine (yY HM5.out.1).mono ?_
     rintro r w6 ⟨rfl,rfl⟩
     go_wp2_with fail
     refine (KX (jW most x l.length (jG most x s)) x _ l HX.out HM5.out.1 HB5 (yA (kT hl)) hm1 HM5.out.2.2.2.2.1 j8 HOK.out (fun ad n c' e=>(HM5.out.2.2.2.1 _ (.inr (.inr ⟨ad,n,c',e,rfl⟩))).2)).mono ?_
     rintro r w6 ⟨rfl,ht⟩
     have HB6:B≤w6.heap.size:=by obtain⟨_,_,_,m⟩:=ht;exact Nat.le_trans HB5 m.size
     obtain⟨o6,m6⟩:=HM5.out.step ht
     have g3:=m6.2.2.2.2.2.2.2.2
     have HM6:=zh m6
     clear ht m6
     go_wp2_with fail
     refine (bL _ _ _ _).mono ?_
     rintro r w7 ⟨rfl,hg⟩
     have ht:=(jZ.refl (o:=o6) HM6.out.1).grew hg
     obtain⟨o7,m7⟩:=HM6.out.step ht
     have g0:=m7.2.2.2.2.2.2.1
     have jJ:=m7.2.2.2.2.2.1
     have HM7:=zh m7
     clear ht m7 g3
     go_wp2_with fail
     refine (qB HM7.out.1).mono ?_
     rintro r w8 ⟨rfl,rfl⟩
     have hn2:=yA (x:=x) (u:=(l.length:Int)) (kT (x:=x) hl)
     by_cases hz:(jU most x l (jW most x l.length (jG most x s))).2=0
     ·have HF2:Hid (zE most (j4 elem) true false kd 0 l s=(((kd,x,((jW most x l.length (jG most x s)).1.length:Int)),0),(jU most x l (jW most x l.length (jG most x s))))):=HF.out.trans (if_neg (by simpa using hz))
      rw[hz]
      clear HF hz HM3 HM4 HM5 HM6
      generalize (jU most x l (jW most x l.length (jG most x s)))=sf at *
      generalize jW most x l.length (jG most x s)=s2 at *
      have f0:=jE jJ 0
      have f1:=jE jJ 1
      have f2:=jE jJ 2
      have c0:=jK jJ 0 _ rfl
      have c1:=jK jJ 1 _ rfl
      have c2:=jK jJ 2 _ rfl
      clear jJ
      go_wp2
      refine bodyPost_ret (v:=zS ((kd,x,(s2.1.length:Int)),0)) ?_ rfl ⟨?_,?_⟩
      ·simp[results,results84,go_sem,c0,c1,c2,zS,vV]
      ·rw[← HPP.out,HF2.out]
      ·rw[← HPP.out,HF2.out]
       exact HM7.out.turnSet (Nat.le_refl _) _ _ _
     ·have HF2:Hid (zE most (j4 elem) true false kd 0 l s=(((0,0,0),(jU most x l (jW most x l.length (jG most x s))).2),(jU most x l (jW most x l.length (jG most x s))))):=HF.out.trans (if_pos (by simpa using hz))
      clear HF HM3 HM4 HM5 HM6
      generalize (jU most x l (jW most x l.length (jG most x s)))=sf at *
      have f0:=jE jJ 0
      have f1:=jE jJ 1
      have f2:=jE jJ 2
      have c0:=jK jJ 0 _ rfl
      have c1:=jK jJ 1 _ rfl
      have c2:=jK jJ 2 _ rfl
      clear jJ
      go_wp2
      refine bodyPost_ret (v:=zS ((0,0,0),sf.2)) ?_ rfl ⟨?_,?_⟩
      ·simp[results,results84,go_sem,c0,c1,c2,zS,vV]
      ·rw[← HPP.out,HF2.out]
      ·rw[← HPP.out,HF2.out]
       exact HM7.out.turnSet (Nat.le_refl _) _ _ _
   ·have hF:zE most (j4 elem) true false kd 0 l s=(((0,0,0),zA (j4 elem) 0 l),s):=by
     unfold zE
     rw[if_pos he]
    have HF:=zh hF
    clear hF
    generalize zA (j4 elem) 0 l=e at *
    obtain⟨hgw,jJ,_⟩:=HW.out
    have f0:=jE jJ 0
    have f1:=jE jJ 1
    have f2:=jE jJ 2
    have c0:=jK jJ 0 _ rfl
    have c1:=jK jJ 1 _ rfl
    have c2:=jK jJ 2 _ rfl
    have HGW:=zh hgw
    clear jJ hgw
    go_wp2
    refine bodyPost_ret (v:=zS ((0,0,0),e)) ?_ rfl ⟨?_,?_⟩
    ·simp[results,results84,go_sem,c0,c1,c2,zS,vV]
    ·rw[← HPP.out,HF.out]
    ·rw[← HPP.out,HF.out]
     exact (jZ.refl HB0.out).grew ((((HGW.out).setCell (Nat.le_refl _) _).setCell (Nat.le_refl _) _).setCell (Nat.le_refl _) _)
theorem r6 (elem kd:Int) (m:Nat) (hkd:typedF elem (m:Int)=(kd,true)) (hpos:0 < m) (w:World) (n:Nat) (hn:n=w.heap.size):Calls prog 122 #[.int .i64 elem,.int .i64 (m:Int)] w fun r w'=>r=.returned (.tuple #[.agg #[.int .i64 kd,.bool false,fnv 170 #[.pointer (some ⟨n,0,none⟩)],fnv 171 #[]],.int .i64 0])∧jA w w'∧w'.cell? ⟨n,0,none⟩=some (.int .i64 elem):=by
 subst hn
 refine (dX elem m (fun h=>by omega) w).mono ?_
 rintro r w' ⟨rfl,hg,hc,_⟩
 refine⟨?_,hg,hc⟩
 unfold fQ
 rw[hkd,if_pos rfl,show ((m:Int) == 0)=false by simp;omega]
theorem put_fix (elem kd:Int) {B:Nat} {w:World} {p:Nat} {o:Option Nat} {most:Int} (s:St) (lv:Value) (l:List V3) (hkd:typedF elem (l.length:Int)=(kd,true)) (hpos:0 < l.length) (h:kU B w p o s.1 most s.2) (hB:B≤w.heap.size) (hl:(s.1.length:Int)≤most) (hm1:most≤1048576)
 (hv:ValsAt w lv l) (j8:l.length≤1048576) (hok:∀v∈l,okV v) (hap:∀ad n c,lv=.slice (some ad) n c→ad.block < w.heap.size∧¬qH p o ad.block) (hs:s.2=0) :
 Calls prog 84 #[jF p,.int .i64 elem,.int .i64 (l.length:Int),lv] w fun r w'=>r=.returned (zS (zE most (j4 elem) false false kd 0 l s).1)∧jZ B w w' p o most (zE most (j4 elem) false false kd 0 l s).2:=by
 have HB0:=zh h
 have HA:=zh hap
 have HOK:=zh hok
 have HV:=zh hv
 obtain⟨a,c,rfl,j2⟩:=hv
 have HC:=zh j2
 have HP:=zh (rfl:zE most (j4 elem) false false kd 0 l s=zE most (j4 elem) false false kd 0 l s)
 generalize hP:zE most (j4 elem) false false kd 0 l s=P
 have HPP:=zh hP
 clear h hap hok j2 HP hP
 go_enter func84,ntmps84
 go_wp2_with fail
 refine (qB (HB0.out.grew ((jA.refl w).alloc _))).mono ?_
 rw[hs]
 rintro r w1 ⟨rfl,rfl⟩
 go_wp2_with fail
 refine (r6 elem kd l.length hkd hpos _ (w.heap.size+1) (by simp)).mono ?_
 rintro r w1 ⟨rfl,hg,hce⟩
 have HCE:=zh hce
 clear hce hkd
 have hb:w1.heap[w.heap.size]? = some (.cells #[.int .i64 0,.int .i64 0,.int .u64 0] 65):=hg.heap (heap_alloc_new _ _)
 have HR:=zh hb
 have HG:Hid (jA w w1):=((jA.refl w).alloc _).trans hg
 have HSZ:=zh hg.size
 clear hb hg
 go_wp2_with fail
 go_loopw [12,13] (fun e i wr=>∃k:Nat,k≤l.length∧i=.int .i64 k∧e=.int .i64 (zA (j4 elem) 0 (l.take k))∧Hid (jA w wr∧wr.heap[w.heap.size]? = some (.cells #[.int .i64 0,.int .i64 0,.int .u64 0] 65)∧wr.cell? ⟨w1.heap.size,0,none⟩=some (.int .i64 kd)∧wr.cell? ⟨w1.heap.size,1,none⟩=some (.bool false)∧wr.cell? ⟨w1.heap.size,2,none⟩=some (fnv 170 #[.pointer (some ⟨w.heap.size+1,0,none⟩)])∧wr.cell? ⟨w1.heap.size,3,none⟩=some (fnv 171 #[])∧wr.cell? ⟨w.heap.size+1,0,none⟩=some (.int .i64 elem))) (fun _ i _=>l.length - (intOf i).toNat)
 case atStart=>
  refine⟨0,Nat.zero_le _,rfl,rfl,?_⟩
  show _∧_
  exact⟨HG.out.alloc _,((jA.refl w1).alloc _).heap HR.out,by go_simp,by go_simp,by go_simp,by go_simp,((jA.refl w1).alloc _).cell HCE.out⟩
 case round=>
  obtain⟨k,hk,rfl,rfl,HW⟩:=hrel
  by_cases hlt:k < l.length
  ·by_cases he:zA (j4 elem) 0 (l.take k)=0
   ·obtain⟨bl,off,rfl,q0,q1,q2⟩:=HC.out k l[k] (List.getElem?_eq_getElem hlt)
    have HSN:=zh (KZ (j4 elem) 0 l k hlt he)
    have d0:=HW.out.1.cell q0
    have d1:=HW.out.1.cell q1
    have d2:=HW.out.1.cell q2
    have g2:=HW.out.2.2.2.2.1
    rw[he]
    generalize l[k]=v at *
    obtain⟨ty,wd,vn⟩:=v
    simp only at d0 d1 d2
    clear q0 q1 q2
    go_wp2_with fail
    refine k8 jA [[],[0],[],[],[2,3],[4],[1,5],[6]] [[(54,2),(55,3),(56,4),(57,5),(58,6),(12,7)],[(52,0),(54,2),(55,3),(56,4),(57,5),(12,7)],[(52,0),(53,1),(55,3),(57,5),(58,6),(12,7)],[(52,0),(53,1),(54,2),(57,5),(58,6),(12,7)],[(52,0),(53,1),(54,2),(55,3),(58,6),(12,7)],[(52,0),(53,1),(54,2),(55,3),(56,4),(12,7)],[(52,0),(53,1),(54,2),(55,3),(56,4),(57,5)],[(52,0),(53,1),(54,2),(55,3),(56,4),(57,5),(58,6)]] [(52,0),(53,1),(54,2),(55,3),(56,4),(57,5),(58,6),(12,7)]
     [Is (.pointer (some ⟨w1.heap.size,2,none⟩)),Is (fnv 170 #[.pointer (some ⟨w.heap.size+1,0,none⟩)]),Is (.slice (some ⟨bl,off,none⟩) l.length c),Is (.int .i64 k),Is (.pointer (some ⟨bl,off+k*3,none⟩)),Is (.agg #[.int .i64 ty,.int .i64 wd,.int .u64 vn]),Is (.int .i64 (j4 elem (ty,wd,vn))),Is (.int .i64 (j4 elem (ty,wd,vn)))]
     zk jA.trans jA.refl (jA.refl _).drew zk ⟨jS,jS,jS,jS,jS,jS,jS,jS,trivial⟩ ⟨?_,?_,?_,?_,?_,?_,?_,?_,trivial⟩ rfl ?_
    ·exact zst
    ·intro y w2 hG hD K hK
     have dg2:=hG.cell g2
     have dd0:=hG.cell d0
     have dd1:=hG.cell d1
     have dd2:=hG.cell d2
     exact zsr
    ·exact zst
    ·exact zst
    ·exact zst
    ·intro y w2 hG hD K hK
     have dg2:=hG.cell g2
     have dd0:=hG.cell d0
     have dd1:=hG.cell d1
     have dd2:=hG.cell d2
     exact zsr
    ·intro y w2 hG hD K hK
     simp only[zD,zq4,zq5,Is,and_true] at hD
     simp only[jB,Act.put,zq1,zq2,zq3,zq4,zq5,Is] at hK⊢
     simp only[hD] at hK⊢
     clear hD
     refine jL ?_
     go_simp
     refine (dW elem (ty,wd,vn) _ _ (hG.cell HW.out.2.2.2.2.2.2)).mono ?_
     rintro r w3 ⟨rfl,hg⟩
     exact hK _ _ _ rfl hg rfl
    ·exact zst
    ·intro y w2 hG hF
     simp only[yV,Is,and_true,Nat.reduceAdd] at hF
     have h0:=hF.1
     have h1:=hF.2.1
     have h2:=hF.2.2.1
     have h3:=hF.2.2.2.1
     have h4:=hF.2.2.2.2.1
     have h5:=hF.2.2.2.2.2.1
     have h6:=hF.2.2.2.2.2.2.1
     have h7:=hF.2.2.2.2.2.2.2
     clear hF
     simp only[jB,Act.put,zq1,zq2,zq3,zq4,zq5,Is]
     rw[h0,h1,h2,h3,h4,h5,h6,h7]
     clear h0 h1 h2 h3 h4 h5 h6 h7
     have HG2:=zh (HW.out.1.trans hG)
     have HGG:=zh hG
     clear hG
     go_wp2
     go_roundw
     case rel=>
      have hw:=HW.out
      have hgg:=HGG.out
      exact⟨k+1,by omega,by go_num,by rw[HSN.out],HG2.out,hgg.heap hw.2.1,hgg.cell hw.2.2.1,hgg.cell hw.2.2.2.1,hgg.cell hw.2.2.2.2.1,hgg.cell hw.2.2.2.2.2.1,hgg.cell hw.2.2.2.2.2.2⟩
     case measure=>simp[intOf];omega
   ·have hF:zE most (j4 elem) false false kd 0 l s=(((0,0,0),zA (j4 elem) 0 (l.take k)),s):=by
     unfold zE
     rw[KY (j4 elem) 0 l k he,if_pos he]
    have HF:=zh hF
    clear hF
    generalize zA (j4 elem) 0 (l.take k)=e at *
    obtain⟨hgw,jJ,_⟩:=HW.out
    have f0:=jE jJ 0
    have f1:=jE jJ 1
    have f2:=jE jJ 2
    have c0:=jK jJ 0 _ rfl
    have c1:=jK jJ 1 _ rfl
    have c2:=jK jJ 2 _ rfl
    have HGW:=zh hgw
    clear jJ hgw
    go_wp2
    refine bodyPost_ret (v:=zS ((0,0,0),e)) ?_ rfl ⟨?_,?_⟩
    ·simp[results,results84,go_sem,c0,c1,c2,zS,vV]
    ·rw[← HPP.out,HF.out]
    ·rw[← HPP.out,HF.out]
     exact (jZ.refl HB0.out).grew ((((HGW.out).setCell (Nat.le_refl _) _).setCell (Nat.le_refl _) _).setCell (Nat.le_refl _) _)
  ·have ek:k=l.length:=by omega
   rw[ek,List.take_length]
   by_cases he:zA (j4 elem) 0 l=0
   ·rw[he]
    clear hlt
    obtain⟨hgw,jJ,g0,g1,g2,g3,_⟩:=HW.out
    have HGW:=zh hgw
    have HROW:=zh jJ
    clear jJ hgw HW
    go_wp2_with fail
    refine (yY (HB0.out.grew HGW.out)).mono ?_
    rintro r w3 ⟨rfl,rfl⟩
    go_wp2_with fail
    refine (Ft.all_any l (0,0,0) _ 0 _ _ (by omega) HOK.out ok0 (HV.out.grew HGW.out)).mono ?_
    rintro r w3 ⟨rfl,hg⟩
    have HG3:=zh (HGW.out.trans hg)
    have HROW3:=zh (hg.heap HROW.out)
    replace g0:=hg.cell g0
    replace g1:=hg.cell g1
    replace g3:=hg.cell g3
    clear hg g2
    by_cases hx:allF l (0,0,0) s.1.length 0=0
    ·have hF:zE most (j4 elem) false false kd 0 l s=(((0,0,0),211),s):=by
      unfold zE
      rw[if_neg (by simpa using he)]
      simp[hx]
     have HF:=zh hF
     clear hF
     rw[hx]
     have jJ:=HROW3.out
     have f0:=jE jJ 0
     have f1:=jE jJ 1
     have f2:=jE jJ 2
     have c0:=jK jJ 0 _ rfl
     have c1:=jK jJ 1 _ rfl
     have c2:=jK jJ 2 _ rfl
     clear jJ
     go_wp2
     refine bodyPost_ret (v:=zS ((0,0,0),211)) ?_ rfl ⟨?_,?_⟩
     ·simp[results,results84,go_sem,c0,c1,c2,zS,vV]
     ·rw[← HPP.out,HF.out]
     ·rw[← HPP.out,HF.out]
      exact (jZ.refl HB0.out).grew ((((HG3.out).setCell (Nat.le_refl _) _).setCell (Nat.le_refl _) _).setCell (Nat.le_refl _) _)
    ·have HX:=zh (KJ hx)
     have HXE:=zh (rfl:allF l (0,0,0) s.1.length 0=allF l (0,0,0) s.1.length 0)
     have HF:Hid (∀x,allF l (0,0,0) s.1.length 0=x→x≠0→zE most (j4 elem) false false kd 0 l s=if (jU most x l (jG most x s)).2≠0 then (((0,0,0),(jU most x l (jG most x s)).2),jU most x l (jG most x s)) else (((kd,x,((jG most x s).1.length:Int)),0),jU most x l (jG most x s))):=by
      show ∀x,_=x→_
      intro x hx hx0
      unfold zE
      rw[if_neg (by simpa using he)]
      simp only[if_true,if_false,Bool.false_eq_true,if_neg]
      rw[hx,if_neg hx0]
     replace HF:=zh (HF.out _ rfl hx)
     have M3:Mid B w p o most (.slice a l.length c) l w.heap.size w1.heap.size kd false (fnv 171 #[]) s o w3:=by
      have hs3:=HG3.out.size
      have hlt1:=yE g0
      have hb0:=HB0.out.lt
      have hs1:=HG.out.size
      refine⟨HB0.out.grew HG3.out,zO.refl _ _,Moved.of_grew HG3.out,?_,HV.out.grew HG3.out,HROW3.out,g0,g1,g3⟩
      rintro b (rfl|rfl|⟨ad,n,c',e,rfl⟩)
      ·exact⟨by simp at hlt1;omega,fun h=>by have:=hb0 _ h;omega⟩
      ·exact⟨by simpa using hlt1,fun h=>by have:=hb0 _ h;omega⟩
      ·have:=HA.out ad n c' e
       exact⟨by omega,this.2⟩
     have HM3:=zh M3
     have HB3:B≤w3.heap.size:=Nat.le_trans hB HG3.out.size
     clear M3 HXE g0 g1 g3 HROW3 HROW HG3 HGW
     generalize allF l (0,0,0) s.1.length 0=x at *
     go_wp2_with fail
     refine (vD s x HM3.out.1 HB3 hl hm1).mono ?_
     rintro r w4 ⟨rfl,ht⟩
     have HB4:B≤w4.heap.size:=by obtain⟨_,_,_,m⟩:=ht;exact Nat.le_trans HB3 m.size
     obtain⟨o4,m4⟩:=HM3.out.step ht
     have g1:=m4.2.2.2.2.2.2.2.1
     have HM4:=zh m4
     clear ht m4
     go_wp2_with fail
     refine (yY HM4.out.1).mono ?_
     rintro r w6 ⟨rfl,rfl⟩
     go_wp2_with fail
     refine (KX (jG most x s) x _ l HX.out HM4.out.1 HB4 (kT hl) hm1 HM4.out.2.2.2.2.1 j8 HOK.out (fun ad n c' e=>(HM4.out.2.2.2.1 _ (.inr (.inr ⟨ad,n,c',e,rfl⟩))).2)).mono ?_
     rintro r w6 ⟨rfl,ht⟩
     have HB6:B≤w6.heap.size:=by obtain⟨_,_,_,m⟩:=ht;exact Nat.le_trans HB4 m.size
     obtain⟨o6,m6⟩:=HM4.out.step ht
     have g3:=m6.2.2.2.2.2.2.2.2
     have HM6:=zh m6
     clear ht m6
     go_wp2_with fail
     refine (bL _ _ _ _).mono ?_
     rintro r w7 ⟨rfl,hg⟩
     have ht:=(jZ.refl (o:=o6) HM6.out.1).grew hg
     obtain⟨o7,m7⟩:=HM6.out.step ht
     have g0:=m7.2.2.2.2.2.2.1
     have jJ:=m7.2.2.2.2.2.1
     have HM7:=zh m7
     clear ht m7 g3
     go_wp2_with fail
     refine (qB HM7.out.1).mono ?_
     rintro r w8 ⟨rfl,rfl⟩
     have hn2:=kT (x:=x) hl
     by_cases hz:(jU most x l (jG most x s)).2=0
     ·have HF2:Hid (zE most (j4 elem) false false kd 0 l s=(((kd,x,((jG most x s).1.length:Int)),0),(jU most x l (jG most x s)))):=HF.out.trans (if_neg (by simpa using hz))
      rw[hz]
      clear HF hz HM3 HM4 HM6
      generalize (jU most x l (jG most x s))=sf at *
      generalize jG most x s=s2 at *
      have f0:=jE jJ 0
      have f1:=jE jJ 1
      have f2:=jE jJ 2
      have c0:=jK jJ 0 _ rfl
      have c1:=jK jJ 1 _ rfl
      have c2:=jK jJ 2 _ rfl
      clear jJ
      go_wp2
      refine bodyPost_ret (v:=zS ((kd,x,(s2.1.length:Int)),0)) ?_ rfl ⟨?_,?_⟩
      ·simp[results,results84,go_sem,c0,c1,c2,zS,vV]
      ·rw[← HPP.out,HF2.out]
      ·rw[← HPP.out,HF2.out]
       exact HM7.out.turnSet (Nat.le_refl _) _ _ _
     ·have HF2:Hid (zE most (j4 elem) false false kd 0 l s=(((0,0,0),(jU most x l (jG most x s)).2),(jU most x l (jG most x s)))):=HF.out.trans (if_pos (by simpa using hz))
      clear HF HM3 HM4 HM6
      generalize (jU most x l (jG most x s))=sf at *
      have f0:=jE jJ 0
      have f1:=jE jJ 1
      have f2:=jE jJ 2
      have c0:=jK jJ 0 _ rfl
      have c1:=jK jJ 1 _ rfl
      have c2:=jK jJ 2 _ rfl
      clear jJ
      go_wp2
      refine bodyPost_ret (v:=zS ((0,0,0),sf.2)) ?_ rfl ⟨?_,?_⟩
      ·simp[results,results84,go_sem,c0,c1,c2,zS,vV]
      ·rw[← HPP.out,HF2.out]
      ·rw[← HPP.out,HF2.out]
       exact HM7.out.turnSet (Nat.le_refl _) _ _ _
   ·have hF:zE most (j4 elem) false false kd 0 l s=(((0,0,0),zA (j4 elem) 0 l),s):=by
     unfold zE
     rw[if_pos he]
    have HF:=zh hF
    clear hF
    generalize zA (j4 elem) 0 l=e at *
    obtain⟨hgw,jJ,_⟩:=HW.out
    have f0:=jE jJ 0
    have f1:=jE jJ 1
    have f2:=jE jJ 2
    have c0:=jK jJ 0 _ rfl
    have c1:=jK jJ 1 _ rfl
    have c2:=jK jJ 2 _ rfl
    have HGW:=zh hgw
    clear jJ hgw
    go_wp2
    refine bodyPost_ret (v:=zS ((0,0,0),e)) ?_ rfl ⟨?_,?_⟩
    ·simp[results,results84,go_sem,c0,c1,c2,zS,vV]
    ·rw[← HPP.out,HF.out]
    ·rw[← HPP.out,HF.out]
     exact (jZ.refl HB0.out).grew ((((HGW.out).setCell (Nat.le_refl _) _).setCell (Nat.le_refl _) _).setCell (Nat.le_refl _) _)
end Go.Proofs.YtjnpcddbgfmpcaaGreatDoor
