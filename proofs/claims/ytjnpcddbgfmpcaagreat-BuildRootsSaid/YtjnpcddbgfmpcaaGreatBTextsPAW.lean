/-
  Texts of the proof.
-/
import Derived.Test.YtjnpcddbgfmpcaaGreatBTextsPAV
import Derived.Laws.EntriesVeiled
set_option linter.unusedVariables false
set_option linter.unusedSimpArgs false
set_option maxHeartbeats 8000000
set_option maxRecDepth 100000
namespace Go.Proofs.YtjnpcddbgfmpcaaGreat
open Go.Proofs.Tryz
open Go Go.ChangeShapes Go.WideShapes Go.ChangeAt Go.RowKit Go.Joins
open Go.Proofs.YtjnpcddbgfmpcaaGreat.Ft (V3 vV okV ValsAt inlineB legalB packF codeF)
def QK (x:Int) (v:V3):UInt8:=UInt8.ofNat (packF v.1 (if inlineB v.1 then x else v.2.1)).1.toNat
def tagS (most x:Int) (s:St) (v:V3):St:=j7 most (jS [⟨#[QK x v]⟩]) s
def kQ (most x:Int) (l:List V3) (s:St):St:=l.foldl (tagS most x) s
theorem KK {most x:Int}:∀(l:List V3) {s:St},(s.1.length:Int)≤most→((kQ most x l s).1.length:Int)≤most
 | [],s,h=>h
 | v::r,s,h=>KK r (KX h)
theorem Q4 (most x:Int) (l:List V3) (s:St) (k:Nat) (h:k < l.length):kQ most x (l.take (k+1)) s=tagS most x (kQ most x (l.take k) s) l[k]:=by
 unfold kQ
 rw[List.take_succ_eq_append_getElem h,List.foldl_append];rfl
theorem vQ (t x:Int):0≤(packF t x).1∧(packF t x).1≤255:=by
 unfold packF
 split
 ·rename_i h
  have:=Ft.legal_range h
  rcases Ft.codeF_cases x with e|e|e|e|e<;>rw[e]<;>simp<;>omega
 ·simp
theorem mO {B:Nat} {w:World} {p:Nat} {o:Option Nat} {most:Int} (s:St) (x:Int) (lv:Value) (l:List V3) (h:kL B w p o s.1 most s.2) (hB:B≤w.heap.size) (hl:(s.1.length:Int)≤most) (hm1:most≤1048576)
 (hv:ValsAt w lv l) (j9:l.length≤1048576) (hap:∀ad n c,lv=.slice (some ad) n c→¬y6 p o ad.block) :
 Calls prog 218 #[jF p,.int .i64 x,lv] w fun r w'=>r=.returned (.tuple #[])∧jY B w w' p o most (kQ most x l s):=by
 have HB0:=zh h
 have HA:=zh hap
 obtain⟨a,c,rfl,j4⟩:=hv
 have HC:=zh j4
 clear h hap j4
 go_enter func218,ntmps218
 go_wp2_with fail
 go_loopw [13] (fun i wr=>∃k:Nat,k≤l.length∧i=.int .i64 k∧Hid (jY B w wr p o most (kQ most x (l.take k) s))) (fun i _=>l.length - (intOf i).toNat)
 case atStart=>exact⟨0,Nat.zero_le _,rfl,jY.refl HB0.out⟩
 case round=>
  obtain⟨k,hk,rfl,HW⟩:=hrel
  by_cases hlt:k < l.length
  ·obtain⟨bl,off,rfl,q0,q1,q2⟩:=HC.out k l[k] (List.getElem?_eq_getElem hlt)
   have hnb:¬y6 p o bl:=HA.out ⟨bl,off,none⟩ _ _ rfl
   obtain⟨o1,k1,k2,k3⟩:=HW.out
   have d0:=k3.cell q0 hnb
   have d1:=k3.cell q1 hnb
   have d2:=k3.cell q2 hnb
   have HSN:=zh (Q4 most x l s k hlt)
   have HLE:=zh (KK (x:=x) (l.take k) hl)
   have hBr:B≤wr.heap.size:=Nat.le_trans hB k3.size
   have HBR:=zh hBr
   have HB1:=zh k1
   have HK:=zh (And.intro k2 k3)
   generalize kQ most x (l.take k) s=s0 at *
   generalize l[k]=v at *
   obtain⟨ty,wd,vn⟩:=v
   simp only at d0 d1 d2
   clear k1 k2 k3 q0 q1 q2 HW hBr
   by_cases hi:inlineB ty=true
   ·go_wp2_with fail
    refine (Ft.inline_any ty _).mono ?_
    rw[hi]
    rintro r w1 ⟨rfl,hg⟩
    have c0:w1.cell? ⟨wr.heap.size,0,none⟩=some (.int .i64 ty):=hg.cell (by go_simp)
    have HG1:=zh (((jB.refl wr).alloc _).trans hg)
    clear hg
    go_wp2_with fail
    refine (Ft.pack_any ty x _).mono ?_
    rintro r w2 ⟨rfl,hg⟩
    have HG2:=zh (HG1.out.trans hg)
    have HTB:Hid (QK x (ty,wd,vn)=UInt8.ofNat (packF ty x).1.toNat):=by show _=_;simp[QK,hi]
    have hpk:=vQ ty x
    have hb8:(packF ty x).1=((UInt8.ofNat (packF ty x).1.toNat).toNat:Int):=by rw[UInt8.toNat_ofNat'];omega
    have HSZ:=zh HG2.out.size
    generalize packF ty x=pk at *
    clear hg c0 hpk
    have hst:=zK (ZX w2 pk.1 (UInt8.ofNat pk.1.toNat) hb8)
    clear hb8
    go_wp2_with fail
    refine (ZY s0 ⟨#[UInt8.ofNat pk.1.toNat]⟩ _ (by simp) (HB1.out.grew (HG2.out.alloc _)) (Nat.le_trans HBR.out (HG2.out.alloc _).size) HLE.out hm1 (show (1:Nat)+0≤1073741824 by decide)).mono ?_
    rintro r w5 ⟨rfl,ht⟩
    have HT:=zh (jY.after (HG2.out.alloc _) ht)
    clear ht hst
    go_wp2
    go_roundw
    case rel=>
     have hT:=HT.out
     rw[← HTB.out] at hT
     have e:kQ most x (l.take (k+1)) s=j7 most (jS [⟨#[QK x (ty,wd,vn)]⟩]) s0:=HSN.out
     rw[← e] at hT
     obtain⟨o2,t1,t2,t3⟩:=hT
     exact⟨k+1,by omega,by go_num,o2,t1,HK.out.1.trans t2 HK.out.2.size,HK.out.2.own HK.out.1 t3⟩
    case measure=>simp[intOf];omega
   ·have hi':inlineB ty=false:=by simpa using hi
    go_wp2_with fail
    refine (Ft.inline_any ty _).mono ?_
    rw[hi']
    rintro r w1 ⟨rfl,hg⟩
    have c0:w1.cell? ⟨wr.heap.size,0,none⟩=some (.int .i64 ty):=hg.cell (by go_simp)
    have HG1:=zh (((jB.refl wr).alloc _).trans hg)
    clear hg
    go_wp2_with fail
    refine (Ft.pack_any ty wd _).mono ?_
    rintro r w2 ⟨rfl,hg⟩
    have HG2:=zh (HG1.out.trans hg)
    have HTB:Hid (QK x (ty,wd,vn)=UInt8.ofNat (packF ty wd).1.toNat):=by show _=_;simp[QK,hi']
    have hpk:=vQ ty wd
    have hb8:(packF ty wd).1=((UInt8.ofNat (packF ty wd).1.toNat).toNat:Int):=by rw[UInt8.toNat_ofNat'];omega
    have HSZ:=zh HG2.out.size
    generalize packF ty wd=pk at *
    clear hg c0 hpk
    have hst:=zK (ZX w2 pk.1 (UInt8.ofNat pk.1.toNat) hb8)
    clear hb8
    go_wp2_with fail
    refine (ZY s0 ⟨#[UInt8.ofNat pk.1.toNat]⟩ _ (by simp) (HB1.out.grew (HG2.out.alloc _)) (Nat.le_trans HBR.out (HG2.out.alloc _).size) HLE.out hm1 (show (1:Nat)+0≤1073741824 by decide)).mono ?_
    rintro r w5 ⟨rfl,ht⟩
    have HT:=zh (jY.after (HG2.out.alloc _) ht)
    clear ht hst
    go_wp2
    go_roundw
    case rel=>
     have hT:=HT.out
     rw[← HTB.out] at hT
     have e:kQ most x (l.take (k+1)) s=j7 most (jS [⟨#[QK x (ty,wd,vn)]⟩]) s0:=HSN.out
     rw[← e] at hT
     obtain⟨o2,t1,t2,t3⟩:=hT
     exact⟨k+1,by omega,by go_num,o2,t1,HK.out.1.trans t2 HK.out.2.size,HK.out.2.own HK.out.1 t3⟩
    case measure=>simp[intOf];omega
  ·have e:k=l.length:=by omega
   have HF:Hid (jY B w wr p o most (kQ most x l s)):=by
    have:=HW.out
    rw[e,List.take_length] at this
    exact this
   clear HW
   go_wp2
   go_end0
   exact⟨rfl,HF.out⟩
def j5 (elem:Int) (v:V3):Int:=if legalB v.1 && decide (v.1≠elem) then 60 else jZ v
theorem aM (elem:Int) (v:V3) (pa:Addr) (w:World) (he:w.cell? pa=some (.int .i64 elem)):Calls prog 220 #[vV v,.pointer (some pa)] w fun r w'=>r=.returned (.int .i64 (j5 elem v))∧jB w w':=by
 obtain⟨ty,wd,n⟩:=v
 have H0:Hid (jB w (w.alloc (.cells #[.int .i64 ty,.int .i64 wd,.int .u64 n] 92))):=(jB.refl w).alloc _
 show Calls prog 220 #[.agg #[.int .i64 ty,.int .i64 wd,.int .u64 n],.pointer (some pa)] w _
 go_enter func220,ntmps220
 go_wp2_with fail
 refine (Ft.legal_any ty _).mono ?_
 by_cases hl:legalB ty=true
 ·rw[hl]
  rintro r w1 ⟨rfl,hg⟩
  have c0:w1.cell? ⟨w.heap.size,0,none⟩=some (.int .i64 ty):=hg.cell (by go_simp)
  have c1:w1.cell? ⟨w.heap.size,1,none⟩=some (.int .i64 wd):=hg.cell (by go_simp)
  have c2:w1.cell? ⟨w.heap.size,2,none⟩=some (.int .u64 n):=hg.cell (by go_simp)
  have ce:w1.cell? pa=some (.int .i64 elem):=hg.cell (H0.out.cell he)
  have HG:=zh (H0.out.trans hg)
  clear hg
  by_cases hne:ty=elem
  ·have HE:Hid (j5 elem (ty,wd,n)=jZ (ty,wd,n)):=by show _=_;simp[j5,hne]
   subst hne
   go_wp2_with fail
   refine (ZL (ty,wd,n) _).mono ?_
   rintro r w2 ⟨rfl,hg⟩
   have HG2:=zh (HG.out.trans hg)
   clear hg
   go_wp2
   go_ret
   exact⟨by rw[HE.out];rfl,HG2.out⟩
  ·have HE:Hid (j5 elem (ty,wd,n)=60):=by show _=_;simp[j5,hl,hne]
   go_wp2
   go_ret
   exact⟨by rw[HE.out];rfl,HG.out⟩
 ·have hl':legalB ty=false:=by simpa using hl
  rw[hl']
  rintro r w1 ⟨rfl,hg⟩
  have c0:w1.cell? ⟨w.heap.size,0,none⟩=some (.int .i64 ty):=hg.cell (by go_simp)
  have c1:w1.cell? ⟨w.heap.size,1,none⟩=some (.int .i64 wd):=hg.cell (by go_simp)
  have c2:w1.cell? ⟨w.heap.size,2,none⟩=some (.int .u64 n):=hg.cell (by go_simp)
  have HE:Hid (j5 elem (ty,wd,n)=jZ (ty,wd,n)):=by show _=_;simp[j5,hl']
  have HG:=zh (H0.out.trans hg)
  clear hg
  go_wp2_with fail
  refine (ZL (ty,wd,n) _).mono ?_
  rintro r w2 ⟨rfl,hg⟩
  have HG2:=zh (HG.out.trans hg)
  clear hg
  go_wp2
  go_ret
  exact⟨by rw[HE.out];rfl,HG2.out⟩
abbrev fnv (k:Nat) (cap:Array Value):Value:=.func (.func k) #[] cap
theorem i2 (w:World):Calls prog 171 #[.int .i64 (-1),.int .i64 0] w fun r w'=>r=.returned (.tuple #[.agg #[.int .i64 10,.bool true,fnv 217 #[],fnv 218 #[]],.int .i64 0])∧jB w w':=by
 go_enter func171,ntmps171
 go_wp2
 refine bodyPost_ret (v:=.tuple #[.agg #[.int .i64 10,.bool true,fnv 217 #[],fnv 218 #[]],.int .i64 0]) ?_ rfl ⟨rfl,?_⟩
 ·simp[results,results171,go_sem,fnv]
 ·exact ((jB.refl w).alloc _).alloc _
end Go.Proofs.YtjnpcddbgfmpcaaGreat
namespace Go.Proofs.YtjnpcddbgfmpcaaGreat
open Go.Proofs.Tryz
open Go Go.ChangeShapes Go.WideShapes Go.ChangeAt Go.RowKit Go.Joins
open Go.Proofs.YtjnpcddbgfmpcaaGreat.Ft (V3 vV okV ValsAt inlineB legalB packF codeF typedF)
def b7 (elem many:Int) (n:Nat):Value:=if (typedF elem many).2=true then .tuple #[.agg #[.int .i64 (typedF elem many).1,.bool (many == 0),fnv 220 #[.pointer (some ⟨n,0,none⟩)],fnv 221 #[]],.int .i64 0] else .tuple #[.agg #[.int .i64 0,.bool false,.nilFunc,.nilFunc],.int .i64 20]
theorem aN (elem many:Int) (h:¬(elem = -1∧many=0)) (w:World):Calls prog 171 #[.int .i64 elem,.int .i64 many] w fun r w'=>r=.returned (b7 elem many w.heap.size)∧jB w w'∧w'.cell? ⟨w.heap.size,0,none⟩=some (.int .i64 elem)∧w.heap.size < w'.heap.size:=by
 unfold b7
 have HTY:=fun w'=>Ft.typed_any elem many w'
 generalize typedF elem many=tq at *
 obtain⟨tt,tb⟩:=tq
 simp only at HTY
 have HY:=zh HTY
 clear HTY
 by_cases he:elem = -1
 ·have hm:¬many=0:=fun x=>h ⟨he,x⟩
  clear h
  subst he
  cases tb
  ·go_enter func171,ntmps171
   go_wp2_with fail
   refine (HY.out _).mono ?_
   rintro r w1 ⟨rfl,hg⟩
   have c0:w1.cell? ⟨w.heap.size,0,none⟩=some (.int .i64 (-1)):=hg.cell (by go_simp)
   have HG:Hid (jB w w1):=(((jB.refl w).alloc _).alloc _).trans hg
   have HSZ:=hg.size
   have hb:w1.heap[w.heap.size+1]? = some (.cells #[.int .i64 0,.bool false,.nilFunc,.nilFunc] 197):=hg.heap (by rw[show w.heap.size+1=(w.alloc (.cells #[.int .i64 (-1)] 3)).heap.size by simp];exact heap_alloc_new _ _)
   have f4:=jE hb 0
   have f5:=jE hb 1
   have f6:=jE hb 2
   have f7:=jE hb 3
   clear hb
   have c4:w1.cell? ⟨w.heap.size+1,0,none⟩=some (.int .i64 0):=hg.cell (by go_simp)
   have c5:w1.cell? ⟨w.heap.size+1,1,none⟩=some (.bool false):=hg.cell (by go_simp)
   have c6:w1.cell? ⟨w.heap.size+1,2,none⟩=some .nilFunc:=hg.cell (by go_simp)
   have c7:w1.cell? ⟨w.heap.size+1,3,none⟩=some .nilFunc:=hg.cell (by go_simp)
   go_wp2
   refine bodyPost_ret (v:=.tuple #[.agg #[.int .i64 0,.bool false,.nilFunc,.nilFunc],.int .i64 20]) ?_ rfl ⟨by simp,?_,?_,?_⟩
   ·simp[results,results171,go_sem,fnv,c4,c5,c6,c7,hm]
   ·exact (((HG.out.setCell (by simp) _).setCell (by simp) _).setCell (by simp) _).setCell (by simp) _
   ·go_simp
   ·simp at HSZ⊢;omega
  ·go_enter func171,ntmps171
   go_wp2_with fail
   refine (HY.out _).mono ?_
   rintro r w1 ⟨rfl,hg⟩
   have c0:w1.cell? ⟨w.heap.size,0,none⟩=some (.int .i64 (-1)):=hg.cell (by go_simp)
   have HG:Hid (jB w w1):=(((jB.refl w).alloc _).alloc _).trans hg
   have HSZ:=hg.size
   have hb:w1.heap[w.heap.size+1]? = some (.cells #[.int .i64 0,.bool false,.nilFunc,.nilFunc] 197):=hg.heap (by rw[show w.heap.size+1=(w.alloc (.cells #[.int .i64 (-1)] 3)).heap.size by simp];exact heap_alloc_new _ _)
   have f4:=jE hb 0
   have f5:=jE hb 1
   have f6:=jE hb 2
   have f7:=jE hb 3
   clear hb
   have c4:w1.cell? ⟨w.heap.size+1,0,none⟩=some (.int .i64 0):=hg.cell (by go_simp)
   have c5:w1.cell? ⟨w.heap.size+1,1,none⟩=some (.bool false):=hg.cell (by go_simp)
   have c6:w1.cell? ⟨w.heap.size+1,2,none⟩=some .nilFunc:=hg.cell (by go_simp)
   have c7:w1.cell? ⟨w.heap.size+1,3,none⟩=some .nilFunc:=hg.cell (by go_simp)
   go_wp2
   refine bodyPost_ret (v:=.tuple #[.agg #[.int .i64 tt,.bool (many == 0),fnv 220 #[.pointer (some ⟨w.heap.size,0,none⟩)],fnv 221 #[]],.int .i64 0]) ?_ rfl ⟨by simp[fnv,hm],?_,?_,?_⟩
   ·simp[results,results171,go_sem,fnv,c4,c5,c6,c7,hm]
   ·exact (((HG.out.setCell (by simp) _).setCell (by simp) _).setCell (by simp) _).setCell (by simp) _
   ·go_simp
   ·simp at HSZ⊢;omega
 ·clear h
  cases tb
  ·go_enter func171,ntmps171
   go_wp2_with fail
   refine (HY.out _).mono ?_
   rintro r w1 ⟨rfl,hg⟩
   have c0:w1.cell? ⟨w.heap.size,0,none⟩=some (.int .i64 elem):=hg.cell (by go_simp)
   have HG:Hid (jB w w1):=(((jB.refl w).alloc _).alloc _).trans hg
   have HSZ:=hg.size
   have hb:w1.heap[w.heap.size+1]? = some (.cells #[.int .i64 0,.bool false,.nilFunc,.nilFunc] 197):=hg.heap (by rw[show w.heap.size+1=(w.alloc (.cells #[.int .i64 elem] 3)).heap.size by simp];exact heap_alloc_new _ _)
   have f4:=jE hb 0
   have f5:=jE hb 1
   have f6:=jE hb 2
   have f7:=jE hb 3
   clear hb
   have c4:w1.cell? ⟨w.heap.size+1,0,none⟩=some (.int .i64 0):=hg.cell (by go_simp)
   have c5:w1.cell? ⟨w.heap.size+1,1,none⟩=some (.bool false):=hg.cell (by go_simp)
   have c6:w1.cell? ⟨w.heap.size+1,2,none⟩=some .nilFunc:=hg.cell (by go_simp)
   have c7:w1.cell? ⟨w.heap.size+1,3,none⟩=some .nilFunc:=hg.cell (by go_simp)
   go_wp2
   refine bodyPost_ret (v:=.tuple #[.agg #[.int .i64 0,.bool false,.nilFunc,.nilFunc],.int .i64 20]) ?_ rfl ⟨by simp,?_,?_,?_⟩
   ·simp[results,results171,go_sem,fnv,c4,c5,c6,c7]
   ·exact (((HG.out.setCell (by simp) _).setCell (by simp) _).setCell (by simp) _).setCell (by simp) _
   ·go_simp
   ·simp at HSZ⊢;omega
  ·go_enter func171,ntmps171
   go_wp2_with fail
   refine (HY.out _).mono ?_
   rintro r w1 ⟨rfl,hg⟩
   have c0:w1.cell? ⟨w.heap.size,0,none⟩=some (.int .i64 elem):=hg.cell (by go_simp)
   have HG:Hid (jB w w1):=(((jB.refl w).alloc _).alloc _).trans hg
   have HSZ:=hg.size
   have hb:w1.heap[w.heap.size+1]? = some (.cells #[.int .i64 0,.bool false,.nilFunc,.nilFunc] 197):=hg.heap (by rw[show w.heap.size+1=(w.alloc (.cells #[.int .i64 elem] 3)).heap.size by simp];exact heap_alloc_new _ _)
   have f4:=jE hb 0
   have f5:=jE hb 1
   have f6:=jE hb 2
   have f7:=jE hb 3
   clear hb
   have c4:w1.cell? ⟨w.heap.size+1,0,none⟩=some (.int .i64 0):=hg.cell (by go_simp)
   have c5:w1.cell? ⟨w.heap.size+1,1,none⟩=some (.bool false):=hg.cell (by go_simp)
   have c6:w1.cell? ⟨w.heap.size+1,2,none⟩=some .nilFunc:=hg.cell (by go_simp)
   have c7:w1.cell? ⟨w.heap.size+1,3,none⟩=some .nilFunc:=hg.cell (by go_simp)
   go_wp2
   refine bodyPost_ret (v:=.tuple #[.agg #[.int .i64 tt,.bool (many == 0),fnv 220 #[.pointer (some ⟨w.heap.size,0,none⟩)],fnv 221 #[]],.int .i64 0]) ?_ rfl ⟨by simp[fnv],?_,?_,?_⟩
   ·simp[results,results171,go_sem,fnv,c4,c5,c6,c7]
   ·exact (((HG.out.setCell (by simp) _).setCell (by simp) _).setCell (by simp) _).setCell (by simp) _
   ·go_simp
   ·simp at HSZ⊢;omega
theorem Q5 (a b c:Value) (w:World):Calls prog 221 #[a,b,c] w fun r w'=>r=.returned (.tuple #[])∧jB w w':=by
 go_enter func221,ntmps221
 go_wp2
 first | go_end0 | refine bodyPost_ret (results_none rfl _ _ _) rfl ?_
 exact⟨rfl,jB.refl _⟩
end Go.Proofs.YtjnpcddbgfmpcaaGreat
namespace Go.Proofs.YtjnpcddbgfmpcaaGreat
open Go.Proofs.Tryz
open Go Go.ChangeShapes Go.WideShapes Go.ChangeAt Go.RowKit Go.Joins
open Go.Proofs.YtjnpcddbgfmpcaaGreat.Ft (V3 vV okV ValsAt inlineB legalB packF codeF typedF allF)
theorem jM {w:World} {p:Nat} {cs:Array Value} {t:TypeId} (h:w.heap[p]? = some (.cells cs t (0,0))) (k:Nat) (v:Value) (hv:cs[k]? = some v):w.cell? ⟨p,k,none⟩=some v:=by
 simp[World.cell?,h,hv]
def kY (T:V3→Int) (e:Int) (l:List V3):Int:=l.foldl (fun e v=>if e=0 then T v else e) e
theorem Y3 (T:V3→Int) {e:Int} (h:e≠0):∀l:List V3,kY T e l=e
 | []=>rfl
 | v::r=>by
  show kY T (if e=0 then T v else e) r=e
  rw[if_neg h]
  exact Y3 T h r
theorem JV (T:V3→Int) (e:Int) (l:List V3) (k:Nat) (h:kY T e (l.take k)≠0):kY T e l=kY T e (l.take k):=by
 have:=Y3 T h (l.drop k)
 unfold kY at *
 rw[← List.foldl_append,List.take_append_drop] at this
 exact this
theorem JW (T:V3→Int) (e:Int) (l:List V3) (k:Nat) (h:k < l.length) (h0:kY T e (l.take k)=0):kY T e (l.take (k+1))=T l[k]:=by
 unfold kY at *
 rw[List.take_succ_eq_append_getElem h,List.foldl_append]
 simp only[List.foldl_cons,List.foldl_nil]
 rw[if_pos h0]
def k9 (most:Int) (T:V3→Int) (len tagged:Bool) (kind e0:Int) (l:List V3) (s:St):(V3 × Int) × St:=
 if kY T e0 l≠0 then (((0,0,0),kY T e0 l),s) else
 let x:=allF l (0,0,0) s.1.length (if len then 1 else 0)
 if x=0 then (((0,0,0),211),s) else
 let s1:=jH most x s
 let s2:=if len then jW most x l.length s1 else s1
 let s3:=jV most x l s2
 let s4:=if tagged then kQ most x l s3 else s3
 if s4.2≠0 then (((0,0,0),s4.2),s4) else (((kind,x,(s2.1.length:Int)),0),s4)
theorem Z4 {l:List V3} {k:V3} {a b:Int} (h:allF l k a b≠0):isW (allF l k a b)=true:=by
 revert h
 unfold allF Ft.leastOf
 repeat' split
 all_goals simp[isW]
def Mid (B:Nat) (w:World) (p:Nat) (o:Option Nat) (most:Int) (lv:Value) (l:List V3) (nR nS:Nat) (kind:Int) (len:Bool) (tg:Value) (s:St) (o':Option Nat) (wn:World):Prop:=
 kL B wn p o' s.1 most s.2∧zJ w o o'∧Moved (y6 p o) w wn∧(∀b,(b=nR∨b=nS∨∃ad n c,lv=.slice (some ad) n c∧ad.block=b)→b < wn.heap.size∧¬y6 p o' b)∧ValsAt wn lv l ∧
  wn.heap[nR]? = some (.cells #[.int .i64 0,.int .i64 0,.int .u64 0] 92)∧wn.cell? ⟨nS,0,none⟩=some (.int .i64 kind)∧wn.cell? ⟨nS,1,none⟩=some (.bool len)∧wn.cell? ⟨nS,3,none⟩=some tg
theorem vR {w w':World} {S:Nat→Prop} {lv:Value} {l:List V3} (h:ValsAt w lv l) (hm:Moved S w w') (hap:∀ad n c,lv=.slice (some ad) n c→¬S ad.block):ValsAt w' lv l:=by
 obtain⟨a,c,rfl,hc⟩:=h
 refine⟨a,c,rfl,fun i x hx=>?_⟩
 obtain⟨b,off,rfl,h0,h1,h2⟩:=hc i x hx
 have hn:¬S b:=hap ⟨b,off,none⟩ _ _ rfl
 exact⟨b,off,rfl,hm.cell h0 hn,hm.cell h1 hn,hm.cell h2 hn⟩
theorem Mid.step {B:Nat} {w:World} {p:Nat} {o:Option Nat} {most:Int} {lv:Value} {l:List V3} {nR nS:Nat} {kind:Int} {len:Bool} {tg:Value} {s s':St} {o':Option Nat} {wn wm:World} (h:Mid B w p o most lv l nR nS kind len tg s o' wn) (ht:jY B wn wm p o' most s') :
 ∃o2,Mid B w p o most lv l nR nS kind len tg s' o2 wm:=by
 obtain⟨hb,hn,hm,hk,hv,hr,g0,g1,g3⟩:=h
 obtain⟨o2,b2,n2,m2⟩:=ht
 have kR:=(hk nR (.inl rfl)).2
 have kS:=(hk nS (.inr (.inl rfl))).2
 refine⟨o2,b2,hn.trans n2 hm.size,hm.own hn m2,fun b hb=>?_,vR hv m2 fun ad n c e=>(hk _ (.inr (.inr ⟨ad,n,c,e,rfl⟩))).2,m2.heap hr kR,m2.cell g0 kS,m2.cell g1 kS,m2.cell g3 kS⟩
 have h1:=hk b hb
 refine⟨Nat.lt_of_lt_of_le h1.1 m2.size,?_⟩
 rintro (e|e)
 ·exact h1.2 (.inl e)
 ·rcases n2 b e.symm with e2|e2
  ·exact h1.2 (.inr e2.symm)
  ·omega
theorem Mid.turnSet {B:Nat} {w:World} {p:Nat} {o:Option Nat} {most:Int} {lv:Value} {l:List V3} {nR nS:Nat} {kind:Int} {len:Bool} {tg:Value} {s:St} {o':Option Nat} {wn:World} (h:Mid B w p o most lv l nR nS kind len tg s o' wn) (hge:w.heap.size≤nR) (v0 v1 v2:Value) :
 jY B w (((wn.setCell ⟨nR,0,none⟩ v0).setCell ⟨nR,1,none⟩ v1).setCell ⟨nR,2,none⟩ v2) p o most s:=by
 obtain⟨hb,hn,hm,hk,_⟩:=h
 have kR:=(hk nR (.inl rfl)).2
 have m:Moved (fun k=>k=nR) wn (((wn.setCell ⟨nR,0,none⟩ v0).setCell ⟨nR,1,none⟩ v1).setCell ⟨nR,2,none⟩ v2):=
  Moved.setCell (S:=fun k=>k=nR) (p:=⟨nR,2,none⟩) (Moved.setCell (S:=fun k=>k=nR) (p:=⟨nR,1,none⟩) (Moved.setCell (S:=fun k=>k=nR) (p:=⟨nR,0,none⟩) (Moved.refl _ wn) (fun _=>rfl) v0) (fun _=>rfl) v1) (fun _=>rfl) v2
 refine⟨o',hb.kept m (fun e=>kR (.inl e.symm)) (fun k e e2=>kR (.inr (by rw[e,e2]))),hn,hm.trans m fun j hj e=>by omega⟩
theorem ok0:okV (0,0,0):=by unfold okV;simp
def zM (q:V3 × Int):Value:=.tuple #[vV q.1,.int .i64 q.2]
theorem put_un {B:Nat} {w:World} {p:Nat} {o:Option Nat} {most:Int} (s:St) (lv:Value) (l:List V3) (h:kL B w p o s.1 most s.2) (hB:B≤w.heap.size) (hl:(s.1.length:Int)≤most) (hm1:most≤1048576)
 (hv:ValsAt w lv l) (j9:l.length≤1048576) (hok:∀v∈l,okV v) (hap:∀ad n c,lv=.slice (some ad) n c→ad.block < w.heap.size∧¬y6 p o ad.block) (hs:s.2=0) :
 Calls prog 115 #[jF p,.int .i64 (-1),.int .i64 0,lv] w fun r w'=>r=.returned (zM (k9 most jZ true true 10 0 l s).1)∧jY B w w' p o most (k9 most jZ true true 10 0 l s).2:=by
 have HB0:=zh h
 have HA:=zh hap
 have HOK:=zh hok
 have HV:=zh hv
 obtain⟨a,c,rfl,j4⟩:=hv
 have HC:=zh j4
 have HP:=zh (rfl:k9 most jZ true true 10 0 l s=k9 most jZ true true 10 0 l s)
 generalize hP:k9 most jZ true true 10 0 l s=P
 have HPP:=zh hP
 clear h hap hok j4 HP hP
 go_enter func115,ntmps115
 go_wp2_with fail
 refine (yX (HB0.out.grew ((jB.refl w).alloc _))).mono ?_
 rw[hs]
 rintro r w1 ⟨rfl,rfl⟩
 go_wp2_with fail
 refine (i2 _).mono ?_
 rintro r w1 ⟨rfl,hg⟩
 have hb:w1.heap[w.heap.size]? = some (.cells #[.int .i64 0,.int .i64 0,.int .u64 0] 92):=hg.heap (heap_alloc_new _ _)
 have HR:=zh hb
 have HG:Hid (jB w w1):=((jB.refl w).alloc _).trans hg
 have HSZ:=zh hg.size
 clear hb hg
 go_wp2_with fail
 go_loopw [12,13] (fun e i wr=>∃k:Nat,k≤l.length∧i=.int .i64 k∧e=.int .i64 (kY jZ 0 (l.take k))∧Hid (jB w wr∧wr.heap[w.heap.size]? = some (.cells #[.int .i64 0,.int .i64 0,.int .u64 0] 92)∧wr.cell? ⟨w1.heap.size,0,none⟩=some (.int .i64 10)∧wr.cell? ⟨w1.heap.size,1,none⟩=some (.bool true)∧wr.cell? ⟨w1.heap.size,2,none⟩=some (fnv 217 #[])∧wr.cell? ⟨w1.heap.size,3,none⟩=some (fnv 218 #[]))) (fun _ i _=>l.length - (intOf i).toNat)
 case atStart=>
  refine⟨0,Nat.zero_le _,rfl,rfl,?_⟩
  show _∧_
  exact⟨HG.out.alloc _,((jB.refl w1).alloc _).heap HR.out,by go_simp,by go_simp,by go_simp,by go_simp⟩
 case round=>
  obtain⟨k,hk,rfl,rfl,HW⟩:=hrel
  by_cases hlt:k < l.length
  ·by_cases he:kY jZ 0 (l.take k)=0
   ·obtain⟨bl,off,rfl,q0,q1,q2⟩:=HC.out k l[k] (List.getElem?_eq_getElem hlt)
    have HSN:=zh (JW jZ 0 l k hlt he)
    have d0:=HW.out.1.cell q0
    have d1:=HW.out.1.cell q1
    have d2:=HW.out.1.cell q2
    have g2:=HW.out.2.2.2.2.1
    rw[he]
    generalize l[k]=v at *
    obtain⟨ty,wd,vn⟩:=v
    simp only at d0 d1 d2
    clear q0 q1 q2
    go_wp2_with fail
    refine kI jB [[],[0],[],[],[2,3],[4],[1,5],[6]] [[(54,2),(55,3),(56,4),(57,5),(58,6),(12,7)],[(52,0),(54,2),(55,3),(56,4),(57,5),(12,7)],[(52,0),(53,1),(55,3),(57,5),(58,6),(12,7)],[(52,0),(53,1),(54,2),(57,5),(58,6),(12,7)],[(52,0),(53,1),(54,2),(55,3),(58,6),(12,7)],[(52,0),(53,1),(54,2),(55,3),(56,4),(12,7)],[(52,0),(53,1),(54,2),(55,3),(56,4),(57,5)],[(52,0),(53,1),(54,2),(55,3),(56,4),(57,5),(58,6)]] [(52,0),(53,1),(54,2),(55,3),(56,4),(57,5),(58,6),(12,7)]
     [Is (.pointer (some ⟨w1.heap.size,2,none⟩)),Is (fnv 217 #[]),Is (.slice (some ⟨bl,off,none⟩) l.length c),Is (.int .i64 k),Is (.pointer (some ⟨bl,off+k*3,none⟩)),Is (.agg #[.int .i64 ty,.int .i64 wd,.int .u64 vn]),Is (.int .i64 (jZ (ty,wd,vn))),Is (.int .i64 (jZ (ty,wd,vn)))]
     zk jB.trans jB.refl (jB.refl _).drew zk ⟨jI,jI,jI,jI,jI,jI,jI,jI,trivial⟩ ⟨?_,?_,?_,?_,?_,?_,?_,?_,trivial⟩ rfl ?_
    ·exact zst
    ·intro y w2 hG hD K hK
     have dg2:=hG.cell g2
     have dd0:=hG.cell d0
     have dd1:=hG.cell d1
     have dd2:=hG.cell d2
     exact zsr
    ·exact zst
    ·exact zst
    ·exact zst
    ·intro y w2 hG hD K hK
     have dg2:=hG.cell g2
     have dd0:=hG.cell d0
     have dd1:=hG.cell d1
     have dd2:=hG.cell d2
     exact zsr
    ·intro y w2 hG hD K hK
     simp only[jN,zq4,zq5,Is,and_true] at hD
     simp only[jA,Act.put,zq1,zq2,zq3,zq4,zq5,Is] at hK⊢
     simp only[hD] at hK⊢
     clear hD
     refine jG ?_
     go_simp
     refine (ZL (ty,wd,vn) _).mono ?_
     rintro r w3 ⟨rfl,hg⟩
     exact hK _ _ _ rfl hg rfl
    ·exact zst
    ·intro y w2 hG hF
     simp only[z6,Is,and_true,Nat.reduceAdd] at hF
     have h0:=hF.1
     have h1:=hF.2.1
     have h2:=hF.2.2.1
     have h3:=hF.2.2.2.1
     have h4:=hF.2.2.2.2.1
     have h5:=hF.2.2.2.2.2.1
     have h6:=hF.2.2.2.2.2.2.1
     have h7:=hF.2.2.2.2.2.2.2
     clear hF
     simp only[jA,Act.put,zq1,zq2,zq3,zq4,zq5,Is]
     rw[h0,h1,h2,h3,h4,h5,h6,h7]
     clear h0 h1 h2 h3 h4 h5 h6 h7
     have HG2:=zh (HW.out.1.trans hG)
     have HGG:=zh hG
     clear hG
     go_wp2
     go_roundw
     case rel=>
      have hw:=HW.out
      have hgg:=HGG.out
      exact⟨k+1,by omega,by go_num,by rw[HSN.out],HG2.out,hgg.heap hw.2.1,hgg.cell hw.2.2.1,hgg.cell hw.2.2.2.1,hgg.cell hw.2.2.2.2.1,hgg.cell hw.2.2.2.2.2⟩
     case measure=>simp[intOf];omega
   ·have hF:k9 most jZ true true 10 0 l s=(((0,0,0),kY jZ 0 (l.take k)),s):=by
     unfold k9
     rw[JV jZ 0 l k he,if_pos he]
    have HF:=zh hF
    clear hF
    generalize kY jZ 0 (l.take k)=e at *
    obtain⟨hgw,jL,_,_,_,_⟩:=HW.out
    have f0:=jE jL 0
    have f1:=jE jL 1
    have f2:=jE jL 2
    have c0:=jM jL 0 _ rfl
    have c1:=jM jL 1 _ rfl
    have c2:=jM jL 2 _ rfl
    have HGW:=zh hgw
    clear jL hgw
    go_wp2
    refine bodyPost_ret (v:=zM ((0,0,0),e)) ?_ rfl ⟨?_,?_⟩
    ·simp[results,results115,go_sem,c0,c1,c2,zM,vV]
    ·rw[← HPP.out,HF.out]
    ·rw[← HPP.out,HF.out]
     exact (jY.refl HB0.out).grew ((((HGW.out).setCell (Nat.le_refl _) _).setCell (Nat.le_refl _) _).setCell (Nat.le_refl _) _)
  ·have ek:k=l.length:=by omega
   rw[ek,List.take_length]
   by_cases he:kY jZ 0 l=0
   ·rw[he]
    clear hlt
    obtain⟨hgw,jL,g0,g1,g2,g3⟩:=HW.out
    have HGW:=zh hgw
    have HROW:=zh jL
    clear jL hgw HW
    go_wp2_with fail
    refine (yN (HB0.out.grew HGW.out)).mono ?_
    rintro r w3 ⟨rfl,rfl⟩
    go_wp2_with fail
    refine (Ft.all_any l (0,0,0) _ 1 _ _ (by omega) HOK.out ok0 (HV.out.grew HGW.out)).mono ?_
    rintro r w3 ⟨rfl,hg⟩
    have HG3:=zh (HGW.out.trans hg)
    have HROW3:=zh (hg.heap HROW.out)
    replace g0:=hg.cell g0
    replace g1:=hg.cell g1
    replace g3:=hg.cell g3
    clear hg g2
    by_cases hx:allF l (0,0,0) s.1.length 1=0
    ·have hF:k9 most jZ true true 10 0 l s=(((0,0,0),211),s):=by
      unfold k9
      rw[if_neg (by simpa using he)]
      simp[hx]
     have HF:=zh hF
     clear hF
     rw[hx]
     have jL:=HROW3.out
     have f0:=jE jL 0
     have f1:=jE jL 1
     have f2:=jE jL 2
     have c0:=jM jL 0 _ rfl
     have c1:=jM jL 1 _ rfl
     have c2:=jM jL 2 _ rfl
     clear jL
     go_wp2
     refine bodyPost_ret (v:=zM ((0,0,0),211)) ?_ rfl ⟨?_,?_⟩
     ·simp[results,results115,go_sem,c0,c1,c2,zM,vV]
     ·rw[← HPP.out,HF.out]
     ·rw[← HPP.out,HF.out]
      exact (jY.refl HB0.out).grew ((((HG3.out).setCell (Nat.le_refl _) _).setCell (Nat.le_refl _) _).setCell (Nat.le_refl _) _)
    ·have HX:=zh (Z4 hx)
     have HXE:=zh (rfl:allF l (0,0,0) s.1.length 1=allF l (0,0,0) s.1.length 1)
     have HF:Hid (∀x,allF l (0,0,0) s.1.length 1=x→x≠0→k9 most jZ true true 10 0 l s=if (kQ most x l (jV most x l (jW most x l.length (jH most x s)))).2≠0 then (((0,0,0),(kQ most x l (jV most x l (jW most x l.length (jH most x s)))).2),kQ most x l (jV most x l (jW most x l.length (jH most x s)))) else (((10,x,((jW most x l.length (jH most x s)).1.length:Int)),0),kQ most x l (jV most x l (jW most x l.length (jH most x s))))):=by
      show ∀x,_=x→_
      intro x hx hx0
      unfold k9
      rw[if_neg (by simpa using he)]
      simp only[if_true]
      rw[hx,if_neg hx0]
     replace HF:=zh (HF.out _ rfl hx)
     have M3:Mid B w p o most (.slice a l.length c) l w.heap.size w1.heap.size 10 true (fnv 218 #[]) s o w3:=by
      have hs3:=HG3.out.size
      have hlt1:=zY g0
      have hb0:=HB0.out.lt
      have hs1:=HG.out.size
      refine⟨HB0.out.grew HG3.out,zJ.refl _ _,Moved.of_grew HG3.out,?_,HV.out.grew HG3.out,HROW3.out,g0,g1,g3⟩
      rintro b (rfl|rfl|⟨ad,n,c',e,rfl⟩)
      ·exact⟨by simp at hlt1;omega,fun h=>by have:=hb0 _ h;omega⟩
      ·exact⟨by simpa using hlt1,fun h=>by have:=hb0 _ h;omega⟩
      ·have:=HA.out ad n c' e
       exact⟨by omega,this.2⟩
     have HM3:=zh M3
     have HB3:B≤w3.heap.size:=Nat.le_trans hB HG3.out.size
     clear M3 HXE g0 g1 g3 HROW3 HROW HG3 HGW
     generalize allF l (0,0,0) s.1.length 1=x at *
     go_wp2_with fail
     refine (qU s x HM3.out.1 HB3 hl hm1).mono ?_
     rintro r w4 ⟨rfl,ht⟩
     have HB4:B≤w4.heap.size:=by obtain⟨_,_,_,m⟩:=ht;exact Nat.le_trans HB3 m.size
     obtain⟨o4,m4⟩:=HM3.out.step ht
     have g1:=m4.2.2.2.2.2.2.2.1
     have HM4:=zh m4
     clear ht m4
     go_wp2_with fail
     refine (yI (jH most x s) x (l.length:Int) HM4.out.1 HB4 (kJ hl) hm1 (by omega) (by omega)).mono ?_
     rintro r w5 ⟨rfl,ht⟩
     have HB5:B≤w5.heap.size:=by obtain⟨_,_,_,m⟩:=ht;exact Nat.le_trans HB4 m.size
     obtain⟨o5,m5⟩:=HM4.out.step ht
     have HM5:=zh m5
     clear ht m5 g1
     go_wp2_with fail
     refine (yN HM5.out.1).mono ?_
     rintro r w6 ⟨rfl,rfl⟩
     go_wp2_with fail
     refine (JU (jW most x l.length (jH most x s)) x _ l HX.out HM5.out.1 HB5 (zW (kJ hl)) hm1 HM5.out.2.2.2.2.1 j9 HOK.out (fun ad n c' e=>(HM5.out.2.2.2.1 _ (.inr (.inr ⟨ad,n,c',e,rfl⟩))).2)).mono ?_
     rintro r w6 ⟨rfl,ht⟩
     have HB6:B≤w6.heap.size:=by obtain⟨_,_,_,m⟩:=ht;exact Nat.le_trans HB5 m.size
     obtain⟨o6,m6⟩:=HM5.out.step ht
     have g3:=m6.2.2.2.2.2.2.2.2
     have HM6:=zh m6
     clear ht m6
     go_wp2_with fail
     refine (mO (jV most x l (jW most x l.length (jH most x s))) x _ l HM6.out.1 HB6 (qC l (zW (kJ hl))) hm1 HM6.out.2.2.2.2.1 j9 (fun ad n c' e=>(HM6.out.2.2.2.1 _ (.inr (.inr ⟨ad,n,c',e,rfl⟩))).2)).mono ?_
     rintro r w7 ⟨rfl,ht⟩
     obtain⟨o7,m7⟩:=HM6.out.step ht
     have g0:=m7.2.2.2.2.2.2.1
     have jL:=m7.2.2.2.2.2.1
     have HM7:=zh m7
     clear ht m7 g3
     go_wp2_with fail
     refine (yX HM7.out.1).mono ?_
     rintro r w8 ⟨rfl,rfl⟩
     have hn2:=zW (x:=x) (u:=(l.length:Int)) (kJ (x:=x) hl)
     by_cases hz:(kQ most x l (jV most x l (jW most x l.length (jH most x s)))).2=0
     ·have HF2:Hid (k9 most jZ true true 10 0 l s=(((10,x,((jW most x l.length (jH most x s)).1.length:Int)),0),(kQ most x l (jV most x l (jW most x l.length (jH most x s)))))):=HF.out.trans (if_neg (by simpa using hz))
      rw[hz]
      clear HF hz HM3 HM4 HM5 HM6
      generalize (kQ most x l (jV most x l (jW most x l.length (jH most x s))))=sf at *
      generalize jW most x l.length (jH most x s)=s2 at *
      have f0:=jE jL 0
      have f1:=jE jL 1
      have f2:=jE jL 2
      have c0:=jM jL 0 _ rfl
      have c1:=jM jL 1 _ rfl
      have c2:=jM jL 2 _ rfl
      clear jL
      go_wp2
      refine bodyPost_ret (v:=zM ((10,x,(s2.1.length:Int)),0)) ?_ rfl ⟨?_,?_⟩
      ·simp[results,results115,go_sem,c0,c1,c2,zM,vV]
      ·rw[← HPP.out,HF2.out]
      ·rw[← HPP.out,HF2.out]
       exact HM7.out.turnSet (Nat.le_refl _) _ _ _
     ·have HF2:Hid (k9 most jZ true true 10 0 l s=(((0,0,0),(kQ most x l (jV most x l (jW most x l.length (jH most x s)))).2),(kQ most x l (jV most x l (jW most x l.length (jH most x s)))))):=HF.out.trans (if_pos (by simpa using hz))
      clear HF HM3 HM4 HM5 HM6
      generalize (kQ most x l (jV most x l (jW most x l.length (jH most x s))))=sf at *
      have f0:=jE jL 0
      have f1:=jE jL 1
      have f2:=jE jL 2
      have c0:=jM jL 0 _ rfl
      have c1:=jM jL 1 _ rfl
      have c2:=jM jL 2 _ rfl
      clear jL
      go_wp2
      refine bodyPost_ret (v:=zM ((0,0,0),sf.2)) ?_ rfl ⟨?_,?_⟩
      ·simp[results,results115,go_sem,c0,c1,c2,zM,vV]
      ·rw[← HPP.out,HF2.out]
      ·rw[← HPP.out,HF2.out]
       exact HM7.out.turnSet (Nat.le_refl _) _ _ _
   ·have hF:k9 most jZ true true 10 0 l s=(((0,0,0),kY jZ 0 l),s):=by
     unfold k9
     rw[if_pos he]
    have HF:=zh hF
    clear hF
    generalize kY jZ 0 l=e at *
    obtain⟨hgw,jL,_,_,_,_⟩:=HW.out
    have f0:=jE jL 0
    have f1:=jE jL 1
    have f2:=jE jL 2
    have c0:=jM jL 0 _ rfl
    have c1:=jM jL 1 _ rfl
    have c2:=jM jL 2 _ rfl
    have HGW:=zh hgw
    clear jL hgw
    go_wp2
    refine bodyPost_ret (v:=zM ((0,0,0),e)) ?_ rfl ⟨?_,?_⟩
    ·simp[results,results115,go_sem,c0,c1,c2,zM,vV]
    ·rw[← HPP.out,HF.out]
    ·rw[← HPP.out,HF.out]
     exact (jY.refl HB0.out).grew ((((HGW.out).setCell (Nat.le_refl _) _).setCell (Nat.le_refl _) _).setCell (Nat.le_refl _) _)
theorem mP (elem kd:Int) (hkd:typedF elem 0=(kd,true)) (hne:elem≠-1) (w:World) (n:Nat) (hn:n=w.heap.size):Calls prog 171 #[.int .i64 elem,.int .i64 0] w fun r w'=>r=.returned (.tuple #[.agg #[.int .i64 kd,.bool true,fnv 220 #[.pointer (some ⟨n,0,none⟩)],fnv 221 #[]],.int .i64 0])∧jB w w'∧w'.cell? ⟨n,0,none⟩=some (.int .i64 elem):=by
 subst hn
 refine (aN elem 0 (fun h=>hne h.1) w).mono ?_
 rintro r w' ⟨rfl,hg,hc,_⟩
 refine⟨?_,hg,hc⟩
 unfold b7
 rw[hkd]
 rfl
theorem put_ty0 (elem kd:Int) (hkd:typedF elem 0=(kd,true)) (hne:elem≠-1) {B:Nat} {w:World} {p:Nat} {o:Option Nat} {most:Int} (s:St) (lv:Value) (l:List V3) (h:kL B w p o s.1 most s.2) (hB:B≤w.heap.size) (hl:(s.1.length:Int)≤most) (hm1:most≤1048576)
 (hv:ValsAt w lv l) (j9:l.length≤1048576) (hok:∀v∈l,okV v) (hap:∀ad n c,lv=.slice (some ad) n c→ad.block < w.heap.size∧¬y6 p o ad.block) (hs:s.2=0) :
 Calls prog 115 #[jF p,.int .i64 elem,.int .i64 0,lv] w fun r w'=>r=.returned (zM (k9 most (j5 elem) true false kd 0 l s).1)∧jY B w w' p o most (k9 most (j5 elem) true false kd 0 l s).2:=by
 have HB0:=zh h
 have HA:=zh hap
 have HOK:=zh hok
 have HV:=zh hv
 obtain⟨a,c,rfl,j4⟩:=hv
 have HC:=zh j4
 have HP:=zh (rfl:k9 most (j5 elem) true false kd 0 l s=k9 most (j5 elem) true false kd 0 l s)
 generalize hP:k9 most (j5 elem) true false kd 0 l s=P
 have HPP:=zh hP
 clear h hap hok j4 HP hP
 go_enter func115,ntmps115
 go_wp2_with fail
 refine (yX (HB0.out.grew ((jB.refl w).alloc _))).mono ?_
 rw[hs]
 rintro r w1 ⟨rfl,rfl⟩
 go_wp2_with fail
 refine (mP elem kd hkd hne _ (w.heap.size+1) (by simp)).mono ?_
 rintro r w1 ⟨rfl,hg,hce⟩
 have HCE:=zh hce
 clear hce hkd
 have hb:w1.heap[w.heap.size]? = some (.cells #[.int .i64 0,.int .i64 0,.int .u64 0] 92):=hg.heap (heap_alloc_new _ _)
 have HR:=zh hb
 have HG:Hid (jB w w1):=((jB.refl w).alloc _).trans hg
 have HSZ:=zh hg.size
 clear hb hg
 go_wp2_with fail
 go_loopw [12,13] (fun e i wr=>∃k:Nat,k≤l.length∧i=.int .i64 k∧e=.int .i64 (kY (j5 elem) 0 (l.take k))∧Hid (jB w wr∧wr.heap[w.heap.size]? = some (.cells #[.int .i64 0,.int .i64 0,.int .u64 0] 92)∧wr.cell? ⟨w1.heap.size,0,none⟩=some (.int .i64 kd)∧wr.cell? ⟨w1.heap.size,1,none⟩=some (.bool true)∧wr.cell? ⟨w1.heap.size,2,none⟩=some (fnv 220 #[.pointer (some ⟨w.heap.size+1,0,none⟩)])∧wr.cell? ⟨w1.heap.size,3,none⟩=some (fnv 221 #[])∧wr.cell? ⟨w.heap.size+1,0,none⟩=some (.int .i64 elem))) (fun _ i _=>l.length - (intOf i).toNat)
 case atStart=>
  refine⟨0,Nat.zero_le _,rfl,rfl,?_⟩
  show _∧_
  exact⟨HG.out.alloc _,((jB.refl w1).alloc _).heap HR.out,by go_simp,by go_simp,by go_simp,by go_simp,((jB.refl w1).alloc _).cell HCE.out⟩
 case round=>
  obtain⟨k,hk,rfl,rfl,HW⟩:=hrel
  by_cases hlt:k < l.length
  ·by_cases he:kY (j5 elem) 0 (l.take k)=0
   ·obtain⟨bl,off,rfl,q0,q1,q2⟩:=HC.out k l[k] (List.getElem?_eq_getElem hlt)
    have HSN:=zh (JW (j5 elem) 0 l k hlt he)
    have d0:=HW.out.1.cell q0
    have d1:=HW.out.1.cell q1
    have d2:=HW.out.1.cell q2
    have g2:=HW.out.2.2.2.2.1
    rw[he]
    generalize l[k]=v at *
    obtain⟨ty,wd,vn⟩:=v
    simp only at d0 d1 d2
    clear q0 q1 q2
    go_wp2_with fail
    refine kI jB [[],[0],[],[],[2,3],[4],[1,5],[6]] [[(54,2),(55,3),(56,4),(57,5),(58,6),(12,7)],[(52,0),(54,2),(55,3),(56,4),(57,5),(12,7)],[(52,0),(53,1),(55,3),(57,5),(58,6),(12,7)],[(52,0),(53,1),(54,2),(57,5),(58,6),(12,7)],[(52,0),(53,1),(54,2),(55,3),(58,6),(12,7)],[(52,0),(53,1),(54,2),(55,3),(56,4),(12,7)],[(52,0),(53,1),(54,2),(55,3),(56,4),(57,5)],[(52,0),(53,1),(54,2),(55,3),(56,4),(57,5),(58,6)]] [(52,0),(53,1),(54,2),(55,3),(56,4),(57,5),(58,6),(12,7)]
     [Is (.pointer (some ⟨w1.heap.size,2,none⟩)),Is (fnv 220 #[.pointer (some ⟨w.heap.size+1,0,none⟩)]),Is (.slice (some ⟨bl,off,none⟩) l.length c),Is (.int .i64 k),Is (.pointer (some ⟨bl,off+k*3,none⟩)),Is (.agg #[.int .i64 ty,.int .i64 wd,.int .u64 vn]),Is (.int .i64 (j5 elem (ty,wd,vn))),Is (.int .i64 (j5 elem (ty,wd,vn)))]
     zk jB.trans jB.refl (jB.refl _).drew zk ⟨jI,jI,jI,jI,jI,jI,jI,jI,trivial⟩ ⟨?_,?_,?_,?_,?_,?_,?_,?_,trivial⟩ rfl ?_
    ·exact zst
    ·intro y w2 hG hD K hK
     have dg2:=hG.cell g2
     have dd0:=hG.cell d0
     have dd1:=hG.cell d1
     have dd2:=hG.cell d2
     exact zsr
    ·exact zst
    ·exact zst
    ·exact zst
    ·intro y w2 hG hD K hK
     have dg2:=hG.cell g2
     have dd0:=hG.cell d0
     have dd1:=hG.cell d1
     have dd2:=hG.cell d2
     exact zsr
    ·intro y w2 hG hD K hK
     simp only[jN,zq4,zq5,Is,and_true] at hD
     simp only[jA,Act.put,zq1,zq2,zq3,zq4,zq5,Is] at hK⊢
     simp only[hD] at hK⊢
     clear hD
     refine jG ?_
     go_simp
     refine (aM elem (ty,wd,vn) _ _ (hG.cell HW.out.2.2.2.2.2.2)).mono ?_
     rintro r w3 ⟨rfl,hg⟩
     exact hK _ _ _ rfl hg rfl
    ·exact zst
    ·intro y w2 hG hF
     simp only[z6,Is,and_true,Nat.reduceAdd] at hF
     have h0:=hF.1
     have h1:=hF.2.1
     have h2:=hF.2.2.1
     have h3:=hF.2.2.2.1
     have h4:=hF.2.2.2.2.1
     have h5:=hF.2.2.2.2.2.1
     have h6:=hF.2.2.2.2.2.2.1
     have h7:=hF.2.2.2.2.2.2.2
     clear hF
     simp only[jA,Act.put,zq1,zq2,zq3,zq4,zq5,Is]
     rw[h0,h1,h2,h3,h4,h5,h6,h7]
     clear h0 h1 h2 h3 h4 h5 h6 h7
     have HG2:=zh (HW.out.1.trans hG)
     have HGG:=zh hG
     clear hG
     go_wp2
     go_roundw
     case rel=>
      have hw:=HW.out
      have hgg:=HGG.out
      exact⟨k+1,by omega,by go_num,by rw[HSN.out],HG2.out,hgg.heap hw.2.1,hgg.cell hw.2.2.1,hgg.cell hw.2.2.2.1,hgg.cell hw.2.2.2.2.1,hgg.cell hw.2.2.2.2.2.1,hgg.cell hw.2.2.2.2.2.2⟩
     case measure=>simp[intOf];omega
   ·have hF:k9 most (j5 elem) true false kd 0 l s=(((0,0,0),kY (j5 elem) 0 (l.take k)),s):=by
     unfold k9
     rw[JV (j5 elem) 0 l k he,if_pos he]
    have HF:=zh hF
    clear hF
    generalize kY (j5 elem) 0 (l.take k)=e at *
    obtain⟨hgw,jL,_⟩:=HW.out
    have f0:=jE jL 0
    have f1:=jE jL 1
    have f2:=jE jL 2
    have c0:=jM jL 0 _ rfl
    have c1:=jM jL 1 _ rfl
    have c2:=jM jL 2 _ rfl
    have HGW:=zh hgw
    clear jL hgw
    go_wp2
    refine bodyPost_ret (v:=zM ((0,0,0),e)) ?_ rfl ⟨?_,?_⟩
    ·simp[results,results115,go_sem,c0,c1,c2,zM,vV]
    ·rw[← HPP.out,HF.out]
    ·rw[← HPP.out,HF.out]
     exact (jY.refl HB0.out).grew ((((HGW.out).setCell (Nat.le_refl _) _).setCell (Nat.le_refl _) _).setCell (Nat.le_refl _) _)
  ·have ek:k=l.length:=by omega
   rw[ek,List.take_length]
   by_cases he:kY (j5 elem) 0 l=0
   ·rw[he]
    clear hlt
    obtain⟨hgw,jL,g0,g1,g2,g3,_⟩:=HW.out
    have HGW:=zh hgw
    have HROW:=zh jL
    clear jL hgw HW
    go_wp2_with fail
    refine (yN (HB0.out.grew HGW.out)).mono ?_
    rintro r w3 ⟨rfl,rfl⟩
    go_wp2_with fail
    refine (Ft.all_any l (0,0,0) _ 1 _ _ (by omega) HOK.out ok0 (HV.out.grew HGW.out)).mono ?_
    rintro r w3 ⟨rfl,hg⟩
    have HG3:=zh (HGW.out.trans hg)
    have HROW3:=zh (hg.heap HROW.out)
    replace g0:=hg.cell g0
    replace g1:=hg.cell g1
    replace g3:=hg.cell g3
    clear hg g2
    by_cases hx:allF l (0,0,0) s.1.length 1=0
    ·have hF:k9 most (j5 elem) true false kd 0 l s=(((0,0,0),211),s):=by
      unfold k9
      rw[if_neg (by simpa using he)]
      simp[hx]
     have HF:=zh hF
     clear hF
     rw[hx]
     have jL:=HROW3.out
     have f0:=jE jL 0
     have f1:=jE jL 1
     have f2:=jE jL 2
     have c0:=jM jL 0 _ rfl
     have c1:=jM jL 1 _ rfl
     have c2:=jM jL 2 _ rfl
     clear jL
     go_wp2
     refine bodyPost_ret (v:=zM ((0,0,0),211)) ?_ rfl ⟨?_,?_⟩
     ·simp[results,results115,go_sem,c0,c1,c2,zM,vV]
     ·rw[← HPP.out,HF.out]
     ·rw[← HPP.out,HF.out]
      exact (jY.refl HB0.out).grew ((((HG3.out).setCell (Nat.le_refl _) _).setCell (Nat.le_refl _) _).setCell (Nat.le_refl _) _)
    ·have HX:=zh (Z4 hx)
     have HXE:=zh (rfl:allF l (0,0,0) s.1.length 1=allF l (0,0,0) s.1.length 1)
     have HF:Hid (∀x,allF l (0,0,0) s.1.length 1=x→x≠0→k9 most (j5 elem) true false kd 0 l s=if (jV most x l (jW most x l.length (jH most x s))).2≠0 then (((0,0,0),(jV most x l (jW most x l.length (jH most x s))).2),jV most x l (jW most x l.length (jH most x s))) else (((kd,x,((jW most x l.length (jH most x s)).1.length:Int)),0),jV most x l (jW most x l.length (jH most x s)))):=by
      show ∀x,_=x→_
      intro x hx hx0
      unfold k9
      rw[if_neg (by simpa using he)]
      simp only[if_true,if_false,Bool.false_eq_true,if_neg]
      rw[hx,if_neg hx0]
     replace HF:=zh (HF.out _ rfl hx)
     have M3:Mid B w p o most (.slice a l.length c) l w.heap.size w1.heap.size kd true (fnv 221 #[]) s o w3:=by
      have hs3:=HG3.out.size
      have hlt1:=zY g0
      have hb0:=HB0.out.lt
      have hs1:=HG.out.size
      refine⟨HB0.out.grew HG3.out,zJ.refl _ _,Moved.of_grew HG3.out,?_,HV.out.grew HG3.out,HROW3.out,g0,g1,g3⟩
      rintro b (rfl|rfl|⟨ad,n,c',e,rfl⟩)
      ·exact⟨by simp at hlt1;omega,fun h=>by have:=hb0 _ h;omega⟩
      ·exact⟨by simpa using hlt1,fun h=>by have:=hb0 _ h;omega⟩
      ·have:=HA.out ad n c' e
       exact⟨by omega,this.2⟩
     have HM3:=zh M3
     have HB3:B≤w3.heap.size:=Nat.le_trans hB HG3.out.size
     clear M3 HXE g0 g1 g3 HROW3 HROW HG3 HGW
     generalize allF l (0,0,0) s.1.length 1=x at *
     go_wp2_with fail
     refine (qU s x HM3.out.1 HB3 hl hm1).mono ?_
     rintro r w4 ⟨rfl,ht⟩
     have HB4:B≤w4.heap.size:=by obtain⟨_,_,_,m⟩:=ht;exact Nat.le_trans HB3 m.size
     obtain⟨o4,m4⟩:=HM3.out.step ht
     have g1:=m4.2.2.2.2.2.2.2.1
     have HM4:=zh m4
     clear ht m4
     go_wp2_with fail
     refine (yI (jH most x s) x (l.length:Int) HM4.out.1 HB4 (kJ hl) hm1 (by omega) (by omega)).mono ?_
     rintro r w5 ⟨rfl,ht⟩
     have HB5:B≤w5.heap.size:=by obtain⟨_,_,_,m⟩:=ht;exact Nat.le_trans HB4 m.size
     obtain⟨o5,m5⟩:=HM4.out.step ht
     have HM5:=zh m5
     clear ht m5 g1
     go_wp2_with fail
     refine (yN HM5.out.1).mono ?_
     rintro r w6 ⟨rfl,rfl⟩
     go_wp2_with fail
     refine (JU (jW most x l.length (jH most x s)) x _ l HX.out HM5.out.1 HB5 (zW (kJ hl)) hm1 HM5.out.2.2.2.2.1 j9 HOK.out (fun ad n c' e=>(HM5.out.2.2.2.1 _ (.inr (.inr ⟨ad,n,c',e,rfl⟩))).2)).mono ?_
     rintro r w6 ⟨rfl,ht⟩
     have HB6:B≤w6.heap.size:=by obtain⟨_,_,_,m⟩:=ht;exact Nat.le_trans HB5 m.size
     obtain⟨o6,m6⟩:=HM5.out.step ht
     have g3:=m6.2.2.2.2.2.2.2.2
     have HM6:=zh m6
     clear ht m6
     go_wp2_with fail
     refine (Q5 _ _ _ _).mono ?_
     rintro r w7 ⟨rfl,hg⟩
     have ht:=(jY.refl (o:=o6) HM6.out.1).grew hg
     obtain⟨o7,m7⟩:=HM6.out.step ht
     have g0:=m7.2.2.2.2.2.2.1
     have jL:=m7.2.2.2.2.2.1
     have HM7:=zh m7
     clear ht m7 g3
     go_wp2_with fail
     refine (yX HM7.out.1).mono ?_
     rintro r w8 ⟨rfl,rfl⟩
     have hn2:=zW (x:=x) (u:=(l.length:Int)) (kJ (x:=x) hl)
     by_cases hz:(jV most x l (jW most x l.length (jH most x s))).2=0
     ·have HF2:Hid (k9 most (j5 elem) true false kd 0 l s=(((kd,x,((jW most x l.length (jH most x s)).1.length:Int)),0),(jV most x l (jW most x l.length (jH most x s))))):=HF.out.trans (if_neg (by simpa using hz))
      rw[hz]
      clear HF hz HM3 HM4 HM5 HM6
      generalize (jV most x l (jW most x l.length (jH most x s)))=sf at *
      generalize jW most x l.length (jH most x s)=s2 at *
      have f0:=jE jL 0
      have f1:=jE jL 1
      have f2:=jE jL 2
      have c0:=jM jL 0 _ rfl
      have c1:=jM jL 1 _ rfl
      have c2:=jM jL 2 _ rfl
      clear jL
      go_wp2
      refine bodyPost_ret (v:=zM ((kd,x,(s2.1.length:Int)),0)) ?_ rfl ⟨?_,?_⟩
      ·simp[results,results115,go_sem,c0,c1,c2,zM,vV]
      ·rw[← HPP.out,HF2.out]
      ·rw[← HPP.out,HF2.out]
       exact HM7.out.turnSet (Nat.le_refl _) _ _ _
     ·have HF2:Hid (k9 most (j5 elem) true false kd 0 l s=(((0,0,0),(jV most x l (jW most x l.length (jH most x s))).2),(jV most x l (jW most x l.length (jH most x s))))):=HF.out.trans (if_pos (by simpa using hz))
      clear HF HM3 HM4 HM5 HM6
      generalize (jV most x l (jW most x l.length (jH most x s)))=sf at *
      have f0:=jE jL 0
      have f1:=jE jL 1
      have f2:=jE jL 2
      have c0:=jM jL 0 _ rfl
      have c1:=jM jL 1 _ rfl
      have c2:=jM jL 2 _ rfl
      clear jL
      go_wp2
      refine bodyPost_ret (v:=zM ((0,0,0),sf.2)) ?_ rfl ⟨?_,?_⟩
      ·simp[results,results115,go_sem,c0,c1,c2,zM,vV]
      ·rw[← HPP.out,HF2.out]
      ·rw[← HPP.out,HF2.out]
       exact HM7.out.turnSet (Nat.le_refl _) _ _ _
   ·have hF:k9 most (j5 elem) true false kd 0 l s=(((0,0,0),kY (j5 elem) 0 l),s):=by
     unfold k9
     rw[if_pos he]
    have HF:=zh hF
    clear hF
    generalize kY (j5 elem) 0 l=e at *
    obtain⟨hgw,jL,_⟩:=HW.out
    have f0:=jE jL 0
    have f1:=jE jL 1
    have f2:=jE jL 2
    have c0:=jM jL 0 _ rfl
    have c1:=jM jL 1 _ rfl
    have c2:=jM jL 2 _ rfl
    have HGW:=zh hgw
    clear jL hgw
    go_wp2
    refine bodyPost_ret (v:=zM ((0,0,0),e)) ?_ rfl ⟨?_,?_⟩
    ·simp[results,results115,go_sem,c0,c1,c2,zM,vV]
    ·rw[← HPP.out,HF.out]
    ·rw[← HPP.out,HF.out]
     exact (jY.refl HB0.out).grew ((((HGW.out).setCell (Nat.le_refl _) _).setCell (Nat.le_refl _) _).setCell (Nat.le_refl _) _)
theorem mQ (elem kd:Int) (m:Nat) (hkd:typedF elem (m:Int)=(kd,true)) (hpos:0 < m) (w:World) (n:Nat) (hn:n=w.heap.size):Calls prog 171 #[.int .i64 elem,.int .i64 (m:Int)] w fun r w'=>r=.returned (.tuple #[.agg #[.int .i64 kd,.bool false,fnv 220 #[.pointer (some ⟨n,0,none⟩)],fnv 221 #[]],.int .i64 0])∧jB w w'∧w'.cell? ⟨n,0,none⟩=some (.int .i64 elem):=by
 subst hn
 refine (aN elem m (fun h=>by omega) w).mono ?_
 rintro r w' ⟨rfl,hg,hc,_⟩
 refine⟨?_,hg,hc⟩
 unfold b7
 rw[hkd,if_pos rfl,show ((m:Int) == 0)=false by simp;omega]
theorem put_fix (elem kd:Int) {B:Nat} {w:World} {p:Nat} {o:Option Nat} {most:Int} (s:St) (lv:Value) (l:List V3) (hkd:typedF elem (l.length:Int)=(kd,true)) (hpos:0 < l.length) (h:kL B w p o s.1 most s.2) (hB:B≤w.heap.size) (hl:(s.1.length:Int)≤most) (hm1:most≤1048576)
 (hv:ValsAt w lv l) (j9:l.length≤1048576) (hok:∀v∈l,okV v) (hap:∀ad n c,lv=.slice (some ad) n c→ad.block < w.heap.size∧¬y6 p o ad.block) (hs:s.2=0) :
 Calls prog 115 #[jF p,.int .i64 elem,.int .i64 (l.length:Int),lv] w fun r w'=>r=.returned (zM (k9 most (j5 elem) false false kd 0 l s).1)∧jY B w w' p o most (k9 most (j5 elem) false false kd 0 l s).2:=by
 have HB0:=zh h
 have HA:=zh hap
 have HOK:=zh hok
 have HV:=zh hv
 obtain⟨a,c,rfl,j4⟩:=hv
 have HC:=zh j4
 have HP:=zh (rfl:k9 most (j5 elem) false false kd 0 l s=k9 most (j5 elem) false false kd 0 l s)
 generalize hP:k9 most (j5 elem) false false kd 0 l s=P
 have HPP:=zh hP
 clear h hap hok j4 HP hP
 go_enter func115,ntmps115
 go_wp2_with fail
 refine (yX (HB0.out.grew ((jB.refl w).alloc _))).mono ?_
 rw[hs]
 rintro r w1 ⟨rfl,rfl⟩
 go_wp2_with fail
 refine (mQ elem kd l.length hkd hpos _ (w.heap.size+1) (by simp)).mono ?_
 rintro r w1 ⟨rfl,hg,hce⟩
 have HCE:=zh hce
 clear hce hkd
 have hb:w1.heap[w.heap.size]? = some (.cells #[.int .i64 0,.int .i64 0,.int .u64 0] 92):=hg.heap (heap_alloc_new _ _)
 have HR:=zh hb
 have HG:Hid (jB w w1):=((jB.refl w).alloc _).trans hg
 have HSZ:=zh hg.size
 clear hb hg
 go_wp2_with fail
 go_loopw [12,13] (fun e i wr=>∃k:Nat,k≤l.length∧i=.int .i64 k∧e=.int .i64 (kY (j5 elem) 0 (l.take k))∧Hid (jB w wr∧wr.heap[w.heap.size]? = some (.cells #[.int .i64 0,.int .i64 0,.int .u64 0] 92)∧wr.cell? ⟨w1.heap.size,0,none⟩=some (.int .i64 kd)∧wr.cell? ⟨w1.heap.size,1,none⟩=some (.bool false)∧wr.cell? ⟨w1.heap.size,2,none⟩=some (fnv 220 #[.pointer (some ⟨w.heap.size+1,0,none⟩)])∧wr.cell? ⟨w1.heap.size,3,none⟩=some (fnv 221 #[])∧wr.cell? ⟨w.heap.size+1,0,none⟩=some (.int .i64 elem))) (fun _ i _=>l.length - (intOf i).toNat)
 case atStart=>
  refine⟨0,Nat.zero_le _,rfl,rfl,?_⟩
  show _∧_
  exact⟨HG.out.alloc _,((jB.refl w1).alloc _).heap HR.out,by go_simp,by go_simp,by go_simp,by go_simp,((jB.refl w1).alloc _).cell HCE.out⟩
 case round=>
  obtain⟨k,hk,rfl,rfl,HW⟩:=hrel
  by_cases hlt:k < l.length
  ·by_cases he:kY (j5 elem) 0 (l.take k)=0
   ·obtain⟨bl,off,rfl,q0,q1,q2⟩:=HC.out k l[k] (List.getElem?_eq_getElem hlt)
    have HSN:=zh (JW (j5 elem) 0 l k hlt he)
    have d0:=HW.out.1.cell q0
    have d1:=HW.out.1.cell q1
    have d2:=HW.out.1.cell q2
    have g2:=HW.out.2.2.2.2.1
    rw[he]
    generalize l[k]=v at *
    obtain⟨ty,wd,vn⟩:=v
    simp only at d0 d1 d2
    clear q0 q1 q2
    go_wp2_with fail
    refine kI jB [[],[0],[],[],[2,3],[4],[1,5],[6]] [[(54,2),(55,3),(56,4),(57,5),(58,6),(12,7)],[(52,0),(54,2),(55,3),(56,4),(57,5),(12,7)],[(52,0),(53,1),(55,3),(57,5),(58,6),(12,7)],[(52,0),(53,1),(54,2),(57,5),(58,6),(12,7)],[(52,0),(53,1),(54,2),(55,3),(58,6),(12,7)],[(52,0),(53,1),(54,2),(55,3),(56,4),(12,7)],[(52,0),(53,1),(54,2),(55,3),(56,4),(57,5)],[(52,0),(53,1),(54,2),(55,3),(56,4),(57,5),(58,6)]] [(52,0),(53,1),(54,2),(55,3),(56,4),(57,5),(58,6),(12,7)]
     [Is (.pointer (some ⟨w1.heap.size,2,none⟩)),Is (fnv 220 #[.pointer (some ⟨w.heap.size+1,0,none⟩)]),Is (.slice (some ⟨bl,off,none⟩) l.length c),Is (.int .i64 k),Is (.pointer (some ⟨bl,off+k*3,none⟩)),Is (.agg #[.int .i64 ty,.int .i64 wd,.int .u64 vn]),Is (.int .i64 (j5 elem (ty,wd,vn))),Is (.int .i64 (j5 elem (ty,wd,vn)))]
     zk jB.trans jB.refl (jB.refl _).drew zk ⟨jI,jI,jI,jI,jI,jI,jI,jI,trivial⟩ ⟨?_,?_,?_,?_,?_,?_,?_,?_,trivial⟩ rfl ?_
    ·exact zst
    ·intro y w2 hG hD K hK
     have dg2:=hG.cell g2
     have dd0:=hG.cell d0
     have dd1:=hG.cell d1
     have dd2:=hG.cell d2
     exact zsr
    ·exact zst
    ·exact zst
    ·exact zst
    ·intro y w2 hG hD K hK
     have dg2:=hG.cell g2
     have dd0:=hG.cell d0
     have dd1:=hG.cell d1
     have dd2:=hG.cell d2
     exact zsr
    ·intro y w2 hG hD K hK
     simp only[jN,zq4,zq5,Is,and_true] at hD
     simp only[jA,Act.put,zq1,zq2,zq3,zq4,zq5,Is] at hK⊢
     simp only[hD] at hK⊢
     clear hD
     refine jG ?_
     go_simp
     refine (aM elem (ty,wd,vn) _ _ (hG.cell HW.out.2.2.2.2.2.2)).mono ?_
     rintro r w3 ⟨rfl,hg⟩
     exact hK _ _ _ rfl hg rfl
    ·exact zst
    ·intro y w2 hG hF
     simp only[z6,Is,and_true,Nat.reduceAdd] at hF
     have h0:=hF.1
     have h1:=hF.2.1
     have h2:=hF.2.2.1
     have h3:=hF.2.2.2.1
     have h4:=hF.2.2.2.2.1
     have h5:=hF.2.2.2.2.2.1
     have h6:=hF.2.2.2.2.2.2.1
     have h7:=hF.2.2.2.2.2.2.2
     clear hF
     simp only[jA,Act.put,zq1,zq2,zq3,zq4,zq5,Is]
     rw[h0,h1,h2,h3,h4,h5,h6,h7]
     clear h0 h1 h2 h3 h4 h5 h6 h7
     have HG2:=zh (HW.out.1.trans hG)
     have HGG:=zh hG
     clear hG
     go_wp2
     go_roundw
     case rel=>
      have hw:=HW.out
      have hgg:=HGG.out
      exact⟨k+1,by omega,by go_num,by rw[HSN.out],HG2.out,hgg.heap hw.2.1,hgg.cell hw.2.2.1,hgg.cell hw.2.2.2.1,hgg.cell hw.2.2.2.2.1,hgg.cell hw.2.2.2.2.2.1,hgg.cell hw.2.2.2.2.2.2⟩
     case measure=>simp[intOf];omega
   ·have hF:k9 most (j5 elem) false false kd 0 l s=(((0,0,0),kY (j5 elem) 0 (l.take k)),s):=by
     unfold k9
     rw[JV (j5 elem) 0 l k he,if_pos he]
    have HF:=zh hF
    clear hF
    generalize kY (j5 elem) 0 (l.take k)=e at *
    obtain⟨hgw,jL,_⟩:=HW.out
    have f0:=jE jL 0
    have f1:=jE jL 1
    have f2:=jE jL 2
    have c0:=jM jL 0 _ rfl
    have c1:=jM jL 1 _ rfl
    have c2:=jM jL 2 _ rfl
    have HGW:=zh hgw
    clear jL hgw
    go_wp2
    refine bodyPost_ret (v:=zM ((0,0,0),e)) ?_ rfl ⟨?_,?_⟩
    ·simp[results,results115,go_sem,c0,c1,c2,zM,vV]
    ·rw[← HPP.out,HF.out]
    ·rw[← HPP.out,HF.out]
     exact (jY.refl HB0.out).grew ((((HGW.out).setCell (Nat.le_refl _) _).setCell (Nat.le_refl _) _).setCell (Nat.le_refl _) _)
  ·have ek:k=l.length:=by omega
   rw[ek,List.take_length]
   by_cases he:kY (j5 elem) 0 l=0
   ·rw[he]
    clear hlt
    obtain⟨hgw,jL,g0,g1,g2,g3,_⟩:=HW.out
    have HGW:=zh hgw
    have HROW:=zh jL
    clear jL hgw HW
    go_wp2_with fail
    refine (yN (HB0.out.grew HGW.out)).mono ?_
    rintro r w3 ⟨rfl,rfl⟩
    go_wp2_with fail
    refine (Ft.all_any l (0,0,0) _ 0 _ _ (by omega) HOK.out ok0 (HV.out.grew HGW.out)).mono ?_
    rintro r w3 ⟨rfl,hg⟩
    have HG3:=zh (HGW.out.trans hg)
    have HROW3:=zh (hg.heap HROW.out)
    replace g0:=hg.cell g0
    replace g1:=hg.cell g1
    replace g3:=hg.cell g3
    clear hg g2
    by_cases hx:allF l (0,0,0) s.1.length 0=0
    ·have hF:k9 most (j5 elem) false false kd 0 l s=(((0,0,0),211),s):=by
      unfold k9
      rw[if_neg (by simpa using he)]
      simp[hx]
     have HF:=zh hF
     clear hF
     rw[hx]
     have jL:=HROW3.out
     have f0:=jE jL 0
     have f1:=jE jL 1
     have f2:=jE jL 2
     have c0:=jM jL 0 _ rfl
     have c1:=jM jL 1 _ rfl
     have c2:=jM jL 2 _ rfl
     clear jL
     go_wp2
     refine bodyPost_ret (v:=zM ((0,0,0),211)) ?_ rfl ⟨?_,?_⟩
     ·simp[results,results115,go_sem,c0,c1,c2,zM,vV]
     ·rw[← HPP.out,HF.out]
     ·rw[← HPP.out,HF.out]
      exact (jY.refl HB0.out).grew ((((HG3.out).setCell (Nat.le_refl _) _).setCell (Nat.le_refl _) _).setCell (Nat.le_refl _) _)
    ·have HX:=zh (Z4 hx)
     have HXE:=zh (rfl:allF l (0,0,0) s.1.length 0=allF l (0,0,0) s.1.length 0)
     have HF:Hid (∀x,allF l (0,0,0) s.1.length 0=x→x≠0→k9 most (j5 elem) false false kd 0 l s=if (jV most x l (jH most x s)).2≠0 then (((0,0,0),(jV most x l (jH most x s)).2),jV most x l (jH most x s)) else (((kd,x,((jH most x s).1.length:Int)),0),jV most x l (jH most x s))):=by
      show ∀x,_=x→_
      intro x hx hx0
      unfold k9
      rw[if_neg (by simpa using he)]
      simp only[if_true,if_false,Bool.false_eq_true,if_neg]
      rw[hx,if_neg hx0]
     replace HF:=zh (HF.out _ rfl hx)
     have M3:Mid B w p o most (.slice a l.length c) l w.heap.size w1.heap.size kd false (fnv 221 #[]) s o w3:=by
      have hs3:=HG3.out.size
      have hlt1:=zY g0
      have hb0:=HB0.out.lt
      have hs1:=HG.out.size
      refine⟨HB0.out.grew HG3.out,zJ.refl _ _,Moved.of_grew HG3.out,?_,HV.out.grew HG3.out,HROW3.out,g0,g1,g3⟩
      rintro b (rfl|rfl|⟨ad,n,c',e,rfl⟩)
      ·exact⟨by simp at hlt1;omega,fun h=>by have:=hb0 _ h;omega⟩
      ·exact⟨by simpa using hlt1,fun h=>by have:=hb0 _ h;omega⟩
      ·have:=HA.out ad n c' e
       exact⟨by omega,this.2⟩
     have HM3:=zh M3
     have HB3:B≤w3.heap.size:=Nat.le_trans hB HG3.out.size
     clear M3 HXE g0 g1 g3 HROW3 HROW HG3 HGW
     generalize allF l (0,0,0) s.1.length 0=x at *
     go_wp2_with fail
     refine (qU s x HM3.out.1 HB3 hl hm1).mono ?_
     rintro r w4 ⟨rfl,ht⟩
     have HB4:B≤w4.heap.size:=by obtain⟨_,_,_,m⟩:=ht;exact Nat.le_trans HB3 m.size
     obtain⟨o4,m4⟩:=HM3.out.step ht
     have g1:=m4.2.2.2.2.2.2.2.1
     have HM4:=zh m4
     clear ht m4
     go_wp2_with fail
     refine (yN HM4.out.1).mono ?_
     rintro r w6 ⟨rfl,rfl⟩
     go_wp2_with fail
     refine (JU (jH most x s) x _ l HX.out HM4.out.1 HB4 (kJ hl) hm1 HM4.out.2.2.2.2.1 j9 HOK.out (fun ad n c' e=>(HM4.out.2.2.2.1 _ (.inr (.inr ⟨ad,n,c',e,rfl⟩))).2)).mono ?_
     rintro r w6 ⟨rfl,ht⟩
     have HB6:B≤w6.heap.size:=by obtain⟨_,_,_,m⟩:=ht;exact Nat.le_trans HB4 m.size
     obtain⟨o6,m6⟩:=HM4.out.step ht
     have g3:=m6.2.2.2.2.2.2.2.2
     have HM6:=zh m6
     clear ht m6
     go_wp2_with fail
     refine (Q5 _ _ _ _).mono ?_
     rintro r w7 ⟨rfl,hg⟩
     have ht:=(jY.refl (o:=o6) HM6.out.1).grew hg
     obtain⟨o7,m7⟩:=HM6.out.step ht
     have g0:=m7.2.2.2.2.2.2.1
     have jL:=m7.2.2.2.2.2.1
     have HM7:=zh m7
     clear ht m7 g3
     go_wp2_with fail
     refine (yX HM7.out.1).mono ?_
     rintro r w8 ⟨rfl,rfl⟩
     have hn2:=kJ (x:=x) hl
     by_cases hz:(jV most x l (jH most x s)).2=0
     ·have HF2:Hid (k9 most (j5 elem) false false kd 0 l s=(((kd,x,((jH most x s).1.length:Int)),0),(jV most x l (jH most x s)))):=HF.out.trans (if_neg (by simpa using hz))
      rw[hz]
      clear HF hz HM3 HM4 HM6
      generalize (jV most x l (jH most x s))=sf at *
      generalize jH most x s=s2 at *
      have f0:=jE jL 0
      have f1:=jE jL 1
      have f2:=jE jL 2
      have c0:=jM jL 0 _ rfl
      have c1:=jM jL 1 _ rfl
      have c2:=jM jL 2 _ rfl
      clear jL
      go_wp2
      refine bodyPost_ret (v:=zM ((kd,x,(s2.1.length:Int)),0)) ?_ rfl ⟨?_,?_⟩
      ·simp[results,results115,go_sem,c0,c1,c2,zM,vV]
      ·rw[← HPP.out,HF2.out]
      ·rw[← HPP.out,HF2.out]
       exact HM7.out.turnSet (Nat.le_refl _) _ _ _
     ·have HF2:Hid (k9 most (j5 elem) false false kd 0 l s=(((0,0,0),(jV most x l (jH most x s)).2),(jV most x l (jH most x s)))):=HF.out.trans (if_pos (by simpa using hz))
      clear HF HM3 HM4 HM6
      generalize (jV most x l (jH most x s))=sf at *
      have f0:=jE jL 0
      have f1:=jE jL 1
      have f2:=jE jL 2
      have c0:=jM jL 0 _ rfl
      have c1:=jM jL 1 _ rfl
      have c2:=jM jL 2 _ rfl
      clear jL
      go_wp2
      refine bodyPost_ret (v:=zM ((0,0,0),sf.2)) ?_ rfl ⟨?_,?_⟩
      ·simp[results,results115,go_sem,c0,c1,c2,zM,vV]
      ·rw[← HPP.out,HF2.out]
      ·rw[← HPP.out,HF2.out]
       exact HM7.out.turnSet (Nat.le_refl _) _ _ _
   ·have hF:k9 most (j5 elem) false false kd 0 l s=(((0,0,0),kY (j5 elem) 0 l),s):=by
     unfold k9
     rw[if_pos he]
    have HF:=zh hF
    clear hF
    generalize kY (j5 elem) 0 l=e at *
    obtain⟨hgw,jL,_⟩:=HW.out
    have f0:=jE jL 0
    have f1:=jE jL 1
    have f2:=jE jL 2
    have c0:=jM jL 0 _ rfl
    have c1:=jM jL 1 _ rfl
    have c2:=jM jL 2 _ rfl
    have HGW:=zh hgw
    clear jL hgw
    go_wp2
    refine bodyPost_ret (v:=zM ((0,0,0),e)) ?_ rfl ⟨?_,?_⟩
    ·simp[results,results115,go_sem,c0,c1,c2,zM,vV]
    ·rw[← HPP.out,HF.out]
    ·rw[← HPP.out,HF.out]
     exact (jY.refl HB0.out).grew ((((HGW.out).setCell (Nat.le_refl _) _).setCell (Nat.le_refl _) _).setCell (Nat.le_refl _) _)
end Go.Proofs.YtjnpcddbgfmpcaaGreat
namespace Go.Proofs.YtjnpcddbgfmpcaaGreat
open Go.Proofs.Tryz
open Go Go.ChangeShapes Go.WideShapes Go.ChangeAt Go.RowKit Go.Joins
theorem i3 {w:World} {p:Nat} {cs:Array Value} {t:TypeId} (h:w.heap[p]? = some (.cells cs t (0,0))) (k:Nat) (v:Value) (hv:cs[k]? = some v):w.cell? ⟨p,k,none⟩=some v:=by
 simp[World.cell?,h,hv]
def yU (l:List UInt8) (at_ x:Int):Int × Int:=if isW x=true then (if at_ < 0∨at_ > l.length - x then (0,6) else (leF ((l.drop at_.toNat).take x.toNat),0)) else (0,2)
theorem i4 {w:World} {bl off:Nat} {c:Nat} {l:List UInt8} (hb:jX w (.slice (some ⟨bl,off,none⟩) l.length c) l) (k x c2:Nat) (h:k+x≤l.length) (hc:x≤c2):jX w (.slice (some ⟨bl,off+k,none⟩) x c2) ((l.drop k).take x):=by
 obtain⟨a,c',e,_,_,h4⟩:=hb
 cases e
 refine⟨some ⟨bl,off+k,none⟩,c2,by simp;omega,by simp;omega,fun h=>(by cases h),fun i b hi=>?_⟩
 rw[List.getElem?_take] at hi
 split at hi
 ·rw[List.getElem?_drop] at hi
  obtain⟨bl',off',e,j4⟩:=h4 (k+i) b hi
  cases e
  exact⟨bl,off+k,rfl,by rw[Nat.add_assoc];exact j4⟩
 ·cases hi
theorem zI {w:World} (sv:Value) (l:List UInt8) (hb:jX w sv l) (j9:l.length≤1073741824) (at_ x:Int) (ha : -4611686018427387904≤at_∧at_≤4611686018427387904) (pa:Nat) (hp:w.heap[pa]? = some (.cells #[.int .u64 0] 32)) (hap:∀ad n c,sv=.slice (some ad) n c→ad.block≠pa) :
 Calls prog 81 #[sv,.int .i64 at_,.int .i64 x,fnv 82 #[.pointer (some ⟨pa,0,none⟩)]] w fun r w'=>r=.returned (.int .i64 (yU l at_ x).2)∧w'.heap[pa]? = some (.cells #[.int .u64 (yU l at_ x).1] 32)∧Moved (fun b=>b=pa) w w':=by
 have HB0:=zh hb
 have HA:=zh hap
 have HP:=zh hp
 obtain⟨a,c,rfl,j4⟩:=hb
 have hc:=j4.1
 have HC:=zh j4.2.2
 clear hap j4 hp
 unfold yU
 by_cases hx:isW x=true
 ·rw[if_pos hx]
  have HX:=zh hx
  by_cases hr:at_ < 0∨at_ > l.length - x
  ·rw[if_pos hr]
   have hx1:1≤x∧x≤8:=by rcases kC hx with rfl | rfl | rfl | rfl<;>omega
   go_enter func81,ntmps81
   go_wp2_with fail
   refine (KI x _).mono ?_
   rw[HX.out]
   rintro r w1 ⟨rfl,rfl⟩
   by_cases h0:at_ < 0
   ·go_wp2
    go_ret
    exact⟨rfl,HP.out,Moved.refl _ _⟩
   ·have h1:(l.length:Int) - x < at_:=by omega
    go_wp2
    go_ret
    exact⟨rfl,HP.out,Moved.refl _ _⟩
  ·rw[if_neg hr]
   have hx1:1≤x∧x≤8:=by rcases kC hx with rfl | rfl | rfl | rfl<;>omega
   obtain⟨k,rfl⟩:=Int.eq_ofNat_of_zero_le (show 0≤at_ by omega)
   obtain⟨y,rfl⟩:=Int.eq_ofNat_of_zero_le (show 0≤x by omega)
   have hky:k+y≤l.length:=by omega
   obtain⟨bl,off,rfl,_⟩:=HC.out 0 l[0] (List.getElem?_eq_getElem (by omega))
   go_enter func81,ntmps81
   go_wp2_with fail
   refine (KI y _).mono ?_
   rw[HX.out]
   rintro r w1 ⟨rfl,rfl⟩
   go_wp2_with fail
   refine (iY _ ((l.drop k).take y) (i4 HB0.out k y (c - k) hky (by omega)) (by simp;omega) pa HP.out (fun ad n c' e=>by cases e;exact HA.out ⟨bl,off,none⟩ _ _ rfl)).mono ?_
   rintro r w2 ⟨rfl,jL,hm⟩
   have HR:=zh jL
   have HM:=zh hm
   clear jL hm
   go_wp2
   go_ret
   exact⟨rfl,by simpa using HR.out,HM.out⟩
 ·rw[if_neg hx]
  have HX:=zh (show isW x=false by simpa using hx)
  clear hx
  go_enter func81,ntmps81
  go_wp2_with fail
  refine (KI x _).mono ?_
  rw[HX.out]
  rintro r w1 ⟨rfl,rfl⟩
  go_wp2
  go_ret
  exact⟨rfl,HP.out,Moved.refl _ _⟩
theorem Z5 {w:World} (sv:Value) (l:List UInt8) (hb:jX w sv l) (j9:l.length≤1073741824) (at_ x:Int) (ha : -4611686018427387904≤at_∧at_≤4611686018427387904) (hap:∀ad n c,sv=.slice (some ad) n c→ad.block < w.heap.size) :
 Calls prog 25 #[sv,.int .i64 at_,.int .i64 x] w fun r w'=>r=.returned (.tuple #[.int .u64 (yU l at_ x).1,.int .i64 (yU l at_ x).2])∧jB w w':=by
 have HB0:=zh hb
 have HA:=zh hap
 have hmf:∀(fn:Fn) (first cap:Array Value) (w:World),(Instr.makeFunc fn first cap).run prog w=.ok (.func fn first cap) w:=fun _ _ _ _=>rfl
 obtain⟨a,c,rfl,j4⟩:=hb
 clear hap j4
 go_enter func25,ntmps25
 go_wp2_with fail
 refine (zI _ l (HB0.out.grew ((jB.refl w).alloc _)) j9 at_ x ha w.heap.size (heap_alloc_new _ _) (fun ad n c' e=>by have:=HA.out ad n c' e;omega)).mono ?_
 rintro r w2 ⟨rfl,jL,hm⟩
 have g0:w2.cell? ⟨w.heap.size,0,none⟩=some (.int .u64 (yU l at_ x).1):=i3 jL 0 _ rfl
 have f0:=jE jL 0
 have HM:=zh hm
 clear jL hm
 obtain⟨q,hq⟩:∃q,q=yU l at_ x:=⟨_,rfl⟩
 rw[← hq] at g0⊢
 have hm2:Moved (fun b=>b=w.heap.size) w w2:=((Moved.refl _ w).alloc _).trans HM.out (fun _ _ h=>h)
 have HG:Hid (jB w w2):=hm2.below (Nat.le_refl _) (fun k e=>by omega)
 clear hm2
 go_wp2
 refine bodyPost_ret (v:=.tuple #[.int .u64 q.1,.int .i64 q.2]) ?_ rfl ⟨by rw[hq],?_⟩
 ·simp[results,results25,go_sem,g0,hq]
 ·exact HG.out.setCell (Nat.le_refl _) _
theorem mR {l:List UInt8} {at_ x:Int} (h:(yU l at_ x).2=0):isW x=true∧0≤(yU l at_ x).1∧(yU l at_ x).1 < 256 ^ x.toNat:=by
 revert h
 unfold yU
 split
 ·rename_i hx
  split
  ·simp
  ·intro _
   refine⟨hx,fQ _,?_⟩
   refine Int.lt_of_lt_of_le (fR _) ?_
   have h1:((l.drop at_.toNat).take x.toNat).length≤x.toNat:=by simp;omega
   have h2:=Nat.pow_le_pow_right (n:=256) (by decide) h1
   have:((256 ^ ((l.drop at_.toNat).take x.toNat).length:Nat):Int)≤((256 ^ x.toNat:Nat):Int):=Int.ofNat_le.2 h2
   simpa using this
 ·simp
def sgnF (u x:Int):Int:=if u < 2 ^ (8*x.toNat - 1) then u else u - 2 ^ (8*x.toNat)
def KL (l:List UInt8) (at_ x:Int):Int × Int:=if (yU l at_ x).2=0 then (sgnF (yU l at_ x).1 x,0) else (0,(yU l at_ x).2)
theorem dL {w:World} (sv:Value) (l:List UInt8) (hb:jX w sv l) (j9:l.length≤1073741824) (at_ x:Int) (ha : -4611686018427387904≤at_∧at_≤4611686018427387904) (hap:∀ad n c,sv=.slice (some ad) n c→ad.block < w.heap.size) :
 Calls prog 24 #[sv,.int .i64 at_,.int .i64 x] w fun r w'=>r=.returned (.tuple #[.int .i64 (KL l at_ x).1,.int .i64 (KL l at_ x).2])∧jB w w':=by
 have HL:Hid (Calls prog 25 #[sv,.int .i64 at_,.int .i64 x] w fun r w'=>r=.returned (.tuple #[.int .u64 (yU l at_ x).1,.int .i64 (yU l at_ x).2])∧jB w w'):=Z5 sv l hb j9 at_ x ha hap
 have hok:=mR (l:=l) (at_:=at_) (x:=x)
 unfold KL
 clear hb hap
 generalize yU l at_ x=q at *
 obtain⟨u,e⟩:=q
 simp only at hok⊢
 by_cases he:e=0
 ·subst he
  obtain⟨hx,u0,u1⟩:=hok rfl
  simp only[if_true]
  rcases kC hx with rfl|rfl|rfl|rfl
  all_goals
   simp at u1
   clear hx
   go_enter func24,ntmps24
   go_wp2_with fail
   refine HL.out.mono ?_
   rintro r w2 ⟨rfl,hg⟩
   have HG:=zh hg
   clear hg
   go_wp2
   go_ret2
   refine⟨?_,HG.out⟩
   congr 2
   simp[sgnF,IntKind.wrap,IntKind.bits,IntKind.signed]
   unfold wrap64
   split<;>omega
 ·rw[if_neg he]
  go_enter func24,ntmps24
  go_wp2_with fail
  refine HL.out.mono ?_
  rintro r w2 ⟨rfl,hg⟩
  have HG:=zh hg
  clear hg
  go_wp2
  go_ret2
  exact⟨rfl,HG.out⟩
theorem ZM (i n:Int) (w:World) (hn:0 < n) (hn2:n≤1099511627776):Calls prog 9 #[.int .i64 i,.int .i64 n] w fun r w'=>r=.returned (.int .i64 (i % n))∧w'=w:=by
 obtain⟨b1,b2,b3,b4⟩:=dD i n hn
 have B1:=zh b1
 have B2:=zh b2
 clear b1 b2
 go_enter func9,ntmps9
 go_wp2
 ·go_ret
  refine⟨yW ?_,rfl⟩
  exact B1.out (by assumption)
 ·go_ret
  exact⟨yW (B2.out (by assumption)),rfl⟩
end Go.Proofs.YtjnpcddbgfmpcaaGreat
namespace Go.Proofs.YtjnpcddbgfmpcaaGreat
open Go.Proofs.Tryz
open Go Go.ChangeShapes Go.WideShapes Go.ChangeAt Go.RowKit Go.Joins
open Go.Proofs.YtjnpcddbgfmpcaaGreat.Ft (V3 vV okV ValsAt inlineB legalB packF codeF typedF allF)
def KM (v:V3):List Value:=[.int .i64 v.1,.int .i64 v.2.1,.int .u64 v.2.2]
def kD (l:List V3):List Value:=l.flatMap KM
theorem vC (l:List V3):(kD l).length=l.length*3:=by
 induction l with
 | nil=>rfl
 | cons v r ih=>
  have:kD (v::r)=KM v++kD r:=rfl
  rw[this,List.length_append,ih,List.length_cons]
  show 3+_=_
  omega
theorem J5 (l m:List V3):kD (l++m)=kD l++kD m:=by simp[kD]
theorem Z6 (l:List V3) (i:Nat) (v:V3) (h:l[i]? = some v):(kD l)[i*3]? = some (.int .i64 v.1)∧(kD l)[i*3+1]? = some (.int .i64 v.2.1)∧(kD l)[i*3+2]? = some (.int .u64 v.2.2):=by
 induction l generalizing i with
 | nil=>simp at h
 | cons u r ih=>
  have e:kD (u::r)=.int .i64 u.1::.int .i64 u.2.1::.int .u64 u.2.2::kD r:=rfl
  rw[e]
  cases i with
  | zero=>simp at h;subst h;simp
  | succ i=>
   have h2:=ih i (by simpa using h)
   rw[show (i+1)*3=i*3+1+1+1 by omega,show i*3+1+1+1+1=(i*3+1)+1+1+1 by omega,show i*3+1+1+1+2=(i*3+2)+1+1+1 by omega]
   simpa only [List.getElem?_cons_succ] using h2
def jQ (w:World) (B:Nat) (v:Value) (l:List V3):Prop:=w.ownsRow B 92 3 v l.length (kD l)
theorem jQ.vals {w:World} {B:Nat} {v:Value} {l:List V3} (h:jQ w B v l):ValsAt w v l:=by
 have h0:=h
 obtain⟨_,h2⟩:=h
 rcases h2 with ⟨rfl,hn⟩|⟨g,cap,cur,rfl,_,_,hn,_⟩
 ·have:l=[]:=List.length_eq_zero_iff.1 hn
  subst this
  exact⟨none,0,rfl,fun i x hx=>by simp at hx⟩
 ·refine⟨some ⟨g,0,none⟩,cap,rfl,fun i x hx=>⟨g,0,rfl,?_⟩⟩
  have hi:=(List.getElem?_eq_some_iff.1 hx).1
  obtain⟨e0,e1,e2⟩:=Z6 l i x hx
  have hc:=World.ownsRow.cells h0 rfl
  have a:∀j,(⟨g,0,none⟩:Addr).add j=⟨g,0+j,none⟩:=by
   intro j
   unfold Addr.add
   split
   ·rename_i h;subst h;rfl
   ·rfl
  have c0:=hc _ _ e0
  have c1:=hc _ _ e1
  have c2:=hc _ _ e2
  rw[a] at c0 c1 c2
  exact⟨c0,c1,c2⟩
theorem Tryz.infoVal:(Tryz.prog.info? 92).map (fun i=>(i.zero,i.size,i.bytes))=some (some (.agg #[.int .i64 0,.int .i64 0,.int .u64 0]),3,24):=by kernel_rfl
theorem aO:∃i0,Tryz.prog.info? 92=some i0∧i0.zero=some (.agg #[.int .i64 0,.int .i64 0,.int .u64 0])∧i0.size=3∧i0.bytes=24:=by
 have h:=Tryz.infoVal
 cases hq:Tryz.prog.info? 92 with
 | none=>simp[hq] at h
 | some i=>simp[hq] at h;exact⟨i,rfl,h.1,h.2.1,h.2.2⟩
theorem Q6 {w:World} {ad:Addr} {cap:Nat} {l:List V3} (h:ValsAt w (.slice (some ad) l.length cap) l):∀j u,(kD l)[j]? = some u→w.cell? (ad.add j)=some u:=by
 obtain⟨a0,c0,e,hc⟩:=h
 cases e
 intro j u hj
 have hjl:j < l.length*3:=by rw[← vC];exact (List.getElem?_eq_some_iff.1 hj).1
 have hd:j / 3 < l.length:=by omega
 have hq:j=j / 3*3∨j=j / 3*3+1∨j=j / 3*3+2:=by omega
 obtain⟨x,hx⟩:∃x,l[j / 3]? = some x:=⟨_,List.getElem?_eq_getElem hd⟩
 obtain⟨b,off,e,d0,d1,d2⟩:=hc (j / 3) x hx
 cases e
 obtain⟨e0,e1,e2⟩:=Z6 l (j / 3) x hx
 generalize j / 3=q at *
 have:(⟨b,off,none⟩:Addr).add j=⟨b,off+j,none⟩:=by
  unfold Addr.add
  split
  ·rename_i h;subst h;rfl
  ·rfl
 rw[this]
 rcases hq with h|h|h
 ·rw[h] at hj;rw[e0] at hj;cases hj;rw[h];exact d0
 ·rw[h] at hj;rw[e1] at hj;cases hj;rw[h];exact d1
 ·rw[h] at hj;rw[e2] at hj;cases hj;rw[h];exact d2
theorem Z7 (l:List V3):∀u∈kD l,u.oneCell'=true:=by
 intro u hu
 simp only[kD,List.mem_flatMap,KM,List.mem_cons,List.not_mem_nil,or_false] at hu
 obtain⟨x,_,rfl|rfl|rfl⟩:=hu<;>rfl
theorem zN {ops:Array Oper} {rest:List Oper} {o:Oper} {a:Act} {w:World} {Q:Exit→Act→World→Prop} (hgd:o.guard=none) (s x:Operand)
 (ho:o.op=.call {callee:=.builtin .append,args:=#[s,x],argTypes:=#[51,51]}) (B:Nat) (v:Value) (l:List V3) (hs:a.eval s=v) (j3:jQ w B v l)
 (sv:Value) (l2:List V3) (hx:a.eval x=sv) (hsv:ValsAt w sv l2) (kG:∀c,sv=.slice none 0 c→c=0) (j9:l.length+l2.length≤1048576) (hB:B≤w.heap.size)
 (h:∀v' w',jQ w' B v' (l++l2)→w.grownBy w' v.ownBlock→zJ w v.ownBlock v'.ownBlock→wpList prog ops Q rest (a.put o.dst v') w'):wpList prog ops Q (o::rest) a w:=by
 obtain⟨i0,hi,hz0,hz1,hz2⟩:=aO
 have hsv0:=hsv
 obtain⟨sa,cap,rfl,hc⟩:=hsv
 cases sa with
 | none=>
  have h0:l2=[]:=by
   cases l2 with
   | nil=>rfl
   | cons y r=>obtain⟨b,off,e,_⟩:=hc 0 y rfl;cases e
  subst h0
  have:=kG cap rfl
  subst this
  refine wpList_append_own_none hgd s x 51 ho B 92 i0 3 underlying51 hi v l.length _ hs j3 hx ?_
  exact h v w (by rw[List.append_nil];exact j3) ⟨rfl,rfl,rfl,Nat.le_refl _,fun _ _ _=>rfl⟩ (zJ.refl _ _)
 | some ad=>
  obtain⟨v',w',hr,h2,h3,h4⟩:=yQ (P:=prog) w B 51 o.type 92 i0 (.agg #[.int .i64 0,.int .i64 0,.int .u64 0]) 3 24 underlying51 hi hz0 hz1 hz2 rfl (by decide) v l.length _ j3 ad l2.length cap (kD l2) (vC l2) (Q6 hsv0) (Z7 l2) (by unfold maxLen;omega) (by omega) hB
  refine wpList_plain hgd fun _ hK=>Lib.wp_append_run w s x 51 51 ho v _ hs hx v' w' hr (hK _ _ (h v' w' ?_ h3 h4))
  unfold jQ
  rw[List.length_append,J5]
  exact h2
theorem yE {w w':World} {B:Nat} {v:Value} {l:List V3} (h:jQ w B v l) (hg:jB w w'):jQ w' B v l:=Moved.owns (Moved.of_grew (S:=fun _=>False) hg) h (fun _ _ h=>h)
theorem q9 (w:World) (x:V3):ValsAt (w.alloc (.cells #[.int .i64 x.1,.int .i64 x.2.1,.int .u64 x.2.2] 92)) (.slice (some ⟨w.heap.size,0,none⟩) 1 1) [x]:=by
 have h:=heap_alloc_new w (.cells #[.int .i64 x.1,.int .i64 x.2.1,.int .u64 x.2.2] 92)
 refine⟨_,1,rfl,fun i y hy=>?_⟩
 have hi:i=0:=by have:=(List.getElem?_eq_some_iff.1 hy).1;simp at this;omega
 subst hi
 simp at hy
 subst hy
 exact⟨_,_,rfl,jM h 0 _ rfl,jM h 1 _ rfl,jM h 2 _ rfl⟩
theorem j8 {w:World} {B:Nat} {v:Value} {l:List V3} (h:jQ w B v l):∃a c,v=.slice a l.length c∧(a=none→c=0):=by
 rcases h.2 with ⟨rfl,hn⟩|⟨g,cap,cur,rfl,_,_,hn,_⟩
 ·exact⟨none,0,by rw[hn],fun _=>rfl⟩
 ·exact⟨_,cap,rfl,fun h=>by cases h⟩
theorem KN {w wr w':World} {v:Value} {l:List V3} (h:jQ wr w.heap.size v l) (hg:jB w wr) (hgr:wr.grownBy w' v.ownBlock):jB w w':=by
 have hgr2:Moved (fun k=>some k=v.ownBlock) wr w':=Moved.of_grown hgr
 refine⟨hgr2.os.trans hg.os,hgr2.tape.trans hg.tape,hgr2.output.trans hg.output,Nat.le_trans hg.size hgr2.size,fun k hk=>?_⟩
 refine (hgr2.block k (Nat.lt_of_lt_of_le hk hg.size) fun e=>?_).trans (hg.block k hk)
 rcases h.2 with ⟨rfl,hn⟩|⟨g,cap,cur,rfl,hb,_,_⟩
 ·cases e
 ·have:k=g:=by injection e
  omega
section
variable {lv:Value} {l:List V3} {most:Int} {s:St}
end
end Go.Proofs.YtjnpcddbgfmpcaaGreat
namespace Go.Proofs.YtjnpcddbgfmpcaaGreat
open Go.Proofs.Tryz
open Go Go.ChangeShapes Go.WideShapes Go.ChangeAt Go.RowKit Go.Joins
open Go.Proofs.YtjnpcddbgfmpcaaGreat.Ft (V3 vV okV ValsAt inlineB legalB packF codeF typedF allF allAt headF fitsL fitsV fitsF belowW isA)
section
variable {most x u:Int} {y:List UInt8} {s:St} {v:V3}
theorem JX (h:s.2≠0):j7 most y s=s:=by
 obtain⟨b,e⟩:=s
 show (KE b y most e,ZU b y most e)=(b,e)
 unfold KE ZU
 rw[if_neg (fun k=>h k.1),if_neg (fun k=>h k.1)]
theorem Y4 (z:Int) (h:s.2≠0):ZE z s=s:=by
 obtain⟨b,e⟩:=s
 show (b,kF e z)=(b,e)
 unfold kF
 rw[if_neg h]
theorem fU (h:s.2≠0):jW most x u s=s:=by
 unfold jW;split
 ·split
  ·exact JX h
  ·exact Y4 _ h
 ·exact Y4 _ h
end
theorem i5 {most:Int} {l y:List UInt8} (hf:¬(l.length:Int)+y.length≤most):j7 most y (l,0)=(l,5):=by
 show (KE l y most 0,ZU l y most 0)=_
 unfold KE ZU
 rw[if_neg (fun k=>hf (by have:=k.2;omega)),if_pos ⟨rfl,fun k=>hf (by omega)⟩]
def Q7 (most:Int):List (List UInt8)→St→St
 | [],s=>s
 | y::r,s=>Q7 most r (j7 most y s)
theorem aP {most:Int}:∀(ys:List (List UInt8)) (b:List UInt8),(b.length:Int)+ys.flatten.length≤most→Q7 most ys (b,0)=(b++ys.flatten,0)
 | [],b,_=>by simp[Q7]
 | y::r,b,h=>by
  have h2:(b.length:Int)+y.length+r.flatten.length≤most:=by simp at h⊢;omega
  show Q7 most r (j7 most y (b,0))=_
  rw[KZ most b y (by omega),aP r (b++y) (by simp at h2⊢;omega)]
  simp
theorem isW_pow {x:Int} (hx:isW x=true):(2:Int) ^ (8*x.toNat)≤18446744073709551616:=by
 rcases kC hx with rfl|rfl|rfl|rfl<;>decide
theorem y8 {x:Int} (hx:isW x=true):1≤x∧x≤8:=by
 rcases kC hx with rfl|rfl|rfl|rfl<;>decide
theorem dM {most x u:Int} {s:St} (hx:isW x=true) (h1:u < 2 ^ (8*x.toNat)):jW most x u s=j7 most (zH x.toNat u.toNat) s:=by
 unfold jW
 rw[if_pos hx,if_pos (by unfold YO;exact decide_eq_true h1)]
theorem pad_eq {x:Int} (hx:isW x=true) (b:List UInt8):(b.length:Int)+kV b x=((b.length:Int)+x - 1) / x*x:=by
 unfold kV
 rcases kC hx with rfl|rfl|rfl|rfl<;>omega
theorem low_lt (n x:Int):0≤kO n x∧kO n x < 2 ^ (8*x.toNat):=by
 unfold kO
 have h:(0:Int) < 2 ^ (8*x.toNat):=Int.pow_pos (by decide)
 exact⟨Int.emod_nonneg _ (by omega),Int.emod_lt_of_pos _ h⟩
theorem V4 {p:Int→Bool} (h:Ft.leastOf p≠0):p (Ft.leastOf p)=true:=by
 revert h
 unfold Ft.leastOf
 repeat' split
 all_goals simp_all
theorem fV {p:Int→Bool} (h:p 8=true):Ft.leastOf p≠0:=by
 unfold Ft.leastOf
 repeat' split
 all_goals simp_all
def Q8 (n:Int) (v:V3):Prop:=jZ v=0∧okV v∧(inlineB v.1=true→v.2.1≤8)∧(inlineB v.1=false→v.2.2≤n)
theorem dN (n:Int):0≤IntKind.u64.wrap n∧IntKind.u64.wrap n≤18446744073709551615:=by
 rw[IntKind.wrap_u64];omega
end Go.Proofs.YtjnpcddbgfmpcaaGreat
namespace Go.Proofs.YtjnpcddbgfmpcaaGreat
open Go.Proofs.Tryz
open Go Go.ChangeShapes Go.WideShapes Go.ChangeAt Go.RowKit Go.Joins
open Go.Proofs.YtjnpcddbgfmpcaaGreat.Ft (V3 vV okV ValsAt inlineB legalB packF codeF typedF allF allAt headF fitsL fitsV fitsF belowW isA unpackF)
theorem i6 (n u:Nat):zH (n+1) u=UInt8.ofNat (u % 256)::zH n (u / 256):=by
 unfold zH
 rw[List.range_succ_eq_map,List.map_cons,List.map_map]
 simp only[Nat.pow_zero,Nat.div_one]
 congr 1
 apply List.map_congr_left
 intro i _
 simp only[Function.comp,Nat.succ_eq_add_one]
 rw[Nat.pow_succ,Nat.mul_comm (256 ^ i) 256,← Nat.div_div_eq_div_mul]
theorem dO:∀(n u:Nat),u < 256 ^ n→leF (zH n u)=u
 | 0,u,h=>by
  have:u=0:=by simpa using h
  subst this
  simp[zH,leF]
 | n+1,u,h=>by
  rw[i6]
  show ((UInt8.ofNat (u % 256)).toNat:Int)+256*leF (zH n (u / 256))=u
  rw[dO n (u / 256) (by rw[Nat.pow_succ] at h;omega),UInt8.toNat_ofNat']
  omega
theorem pow_256 {x:Int} (hx:isW x=true):(256:Nat) ^ x.toNat=(2 ^ (8*x.toNat):Int):=by
 rcases kC hx with rfl|rfl|rfl|rfl<;>decide
theorem Q9 {X A C:List UInt8} {x u at_:Int} (hx:isW x=true) (hX:X=A++zH x.toNat u.toNat++C) (hA:(A.length:Int)=at_) (h0:0≤u) (h1:u < 2 ^ (8*x.toNat)):yU X at_ x=(u,0):=by
 have hp:=y8 hx
 subst hX
 unfold yU
 rw[if_pos hx,if_neg (by rw[List.length_append,List.length_append,j2];omega)]
 have e:(((A++zH x.toNat u.toNat++C).drop at_.toNat).take x.toNat)=zH x.toNat u.toNat:=by
  rw[← hA,show ((A.length:Int)).toNat=A.length by omega,List.append_assoc,List.drop_left,List.take_left' (j2 _ _)]
 rw[e,dO _ _ (by have:=pow_256 hx;omega)]
 rw[show (u.toNat:Int)=u by omega]
theorem fW {x:Int} {v:V3} (hx:isW x=true) (hl:jZ v=0):unpackF (QK x v).toNat=(v.1,if inlineB v.1 then x else v.2.1,0):=by
 obtain⟨t,wd,n⟩:=v
 unfold jZ at hl
 by_cases hlb:legalB t=true
 ·have hww:isW (if inlineB t then x else wd)=true:=by
   split
   ·exact hx
   ·rename_i hn
    rw[if_pos hlb,if_neg hn] at hl
    by_cases h:isW wd=true
    ·exact h
    ·rw[if_neg h] at hl;cases hl
  unfold QK
  generalize (if inlineB t then x else wd)=y at *
  have ht:0≤t∧t < 37:=by
   by_cases h0:t < 0
   ·unfold legalB at hlb;simp[Ft.kindOf,h0] at hlb
   ·by_cases h1:t < 37
    ·exact⟨by omega,h1⟩
    ·exfalso
     unfold legalB Ft.kindOf at hlb
     rw[if_neg h0] at hlb
     have:Ft.kindRow t.toNat=(0,0,0):=by
      have hm:37≤t.toNat:=by omega
      generalize t.toNat=m at hm
      unfold Ft.kindRow
      split<;>first | rfl | omega
     rw[this] at hlb
     simp at hlb
  have hc:∃c:Nat,c < 4∧codeF y=some (c:Int)∧y=2 ^ c:=by
   rcases kC hww with rfl|rfl|rfl|rfl
   ·exact⟨0,by omega,rfl,rfl⟩
   ·exact⟨1,by omega,rfl,rfl⟩
   ·exact⟨2,by omega,rfl,rfl⟩
   ·exact⟨3,by omega,rfl,rfl⟩
  obtain⟨c,hc4,hcode,hy⟩:=hc
  have e:(packF t y).1=4*t+c:=by
   unfold packF
   rw[if_pos hlb,hcode]
  rw[e,UInt8.toNat_ofNat',show (4*t+(c:Int)).toNat % 2 ^ 8=4*t.toNat+c by omega]
  unfold unpackF
  rw[show (4*t.toNat+c) / 4=t.toNat by omega,show (4*t.toNat+c) % 4=c by omega,show ((t.toNat:Nat):Int)=t by omega,if_pos hlb,hy]
 ·rw[if_neg hlb] at hl;cases hl
end Go.Proofs.YtjnpcddbgfmpcaaGreat
