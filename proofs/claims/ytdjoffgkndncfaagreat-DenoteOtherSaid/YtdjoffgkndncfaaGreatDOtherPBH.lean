/-Texts-/
import Derived.Test.YtdjoffgkndncfaaGreatDOtherPBG
import Derived.Laws.EntriesVeiled
set_option linter.unusedVariables false
set_option linter.unusedSimpArgs false
set_option maxHeartbeats 8000000
set_option maxRecDepth 100000
namespace Go.Proofs.YtdjoffgkndncfaaGreat
open Go.Proofs.Tryz
open Go Go.ChangeShapes Go.WideShapes Go.ChangeAt Go.RowKit Go.Joins
open Ft (V3 vV okV ValsAt inlineB legalB packF codeF)
def KE (x:Int) (v:V3):UInt8:=UInt8.ofNat (packF v.1 (if inlineB v.1 then x else v.2.1)).1.toNat
def sY (jB x:Int) (s:St) (v:V3):St:=kQ jB (jS [⟨#[KE x v]⟩]) s
def z6 (jB x:Int) (l:List V3) (s:St):St:=l.foldl (sY jB x) s
theorem aJ {jB x:Int}:∀(l:List V3) {s:St},(s.1.length:Int)≤jB→((z6 jB x l s).1.length:Int)≤jB
 | [],s,h=>h
 | v::r,s,h=>aJ r (bH h)
theorem mF (jB x:Int) (l:List V3) (s:St) (k:Nat) (h:k < l.length):z6 jB x (l.take (k+1)) s=sY jB x (z6 jB x (l.take k) s) l[k]:=by
 unfold z6;rw[List.take_succ_eq_append_getElem h,List.foldl_append];rfl
theorem Y0 (t x:Int):0≤(packF t x).1∧(packF t x).1≤255:=by
 unfold packF;split
 ·rename_i h;have:=Ft.legal_range h;rcases Ft.codeF_cases x with e|e|e|e|e<;>rw[e]<;>simp<;>omega
 simp
theorem LY {B:Nat} {w:World} {p:Nat} {o:Option Nat} {jB:Int} (s:St) (x:Int) (lv:Value) (l:List V3) (h:yA B w p o s.1 jB s.2) (hB:B≤w.heap.size) (hl:(s.1.length:Int)≤jB) (hm1:jB≤1048576)
 (hv:ValsAt w lv l) (kE:l.length≤1048576) (hap:∀ad n c,lv=.slice (some ad) n c→¬KL p o ad.block) :
 Calls prog 256 #[jI p,.int .i64 x,lv] w λr w'=>r=.returned (.tuple #[])∧kO B w w' p o jB (z6 jB x l s):=by
 have HB0:=zh h;have HA:=zh hap;obtain⟨a,c,rfl,kM⟩:=hv;have HC:=zh kM;clear h hap kM;go_enter func256,ntmps256;go_wp2_with fail
 go_loopw [13] (λi wr=>∃k:Nat,k≤l.length∧i=.int .i64 k∧Hid (kO B w wr p o jB (z6 jB x (l.take k) s))) (λi _=>l.length - (intOf i).toNat)
 case atStart=>exact⟨0,Nat.zero_le _,rfl,kO.refl HB0.out⟩
 case round=>
  obtain⟨k,hk,rfl,HW⟩:=hrel;by_cases hlt:k < l.length
  ·obtain⟨bl,off,rfl,q0,q1,q2⟩:=HC.out k l[k] (za hlt);have hnb:¬KL p o bl:=HA.out ⟨bl,off,none⟩ _ _ rfl;obtain⟨o1,k1,k2,k3⟩:=HW.out;have d0:=k3.cell q0 hnb;have d1:=k3.cell q1 hnb;have d2:=k3.cell q2 hnb;have HSN:=zh (mF jB x l s k hlt);have HLE:=zh (aJ (x:=x) (l.take k) hl);have hBr:B≤wr.heap.size:=zf hB k3.size;have HBR:=zh hBr;have HB1:=zh k1;have HK:=zh (qa k2 k3);generalize z6 jB x (l.take k) s=s0 at *;generalize l[k]=v at *;obtain⟨ty,wd,vn⟩:=v;simp only at d0 d1 d2;clear k1 k2 k3 q0 q1 q2 HW hBr;by_cases hi:inlineB ty=true
   ·go_wp2_with fail;refine (Ft.inline_any ty _).mono ?_;rw[hi];rintro r w1 ⟨rfl,hg⟩;have c0:w1.cell? ⟨wr.heap.size,0,none⟩=some (.int .i64 ty):=hg.cell zp3;have HG1:=zh (((jC.refl wr).alloc _).trans hg);clear hg;go_wp2_with fail;refine (Ft.pack_any ty x _).mono ?_;rintro r w2 ⟨rfl,hg⟩;have HG2:=zh (HG1.trans hg);have HTB:Hid (KE x (ty,wd,vn)=UInt8.ofNat (packF ty x).1.toNat):=(by show _=_;simp[KE,hi]);have hpk:=Y0 ty x;have hb8:(packF ty x).1=((UInt8.ofNat (packF ty x).1.toNat).toNat:Int):=(by rw[UInt8.toNat_ofNat'];omega);have HSZ:=zh HG2.size;generalize packF ty x=pk at *;clear hg c0 hpk;have hst:=ZD (eA w2 pk.1 (UInt8.ofNat pk.1.toNat) hb8);clear hb8;go_wp2_with fail;refine (eB s0 ⟨#[UInt8.ofNat pk.1.toNat]⟩ _ zp2 (HB1.grew (HG2.alloc _)) (zf HBR.out (HG2.alloc _).size) HLE.out hm1 (show (1:Nat)+0≤1073741824 by decide)).mono ?_;rintro r w5 ⟨rfl,ht⟩;have HT:=zh (kO.after (HG2.alloc _) ht);clear ht hst;go_wp2;go_roundw
    case rel=>
     have hT:=HT.out;rw[← HTB.out] at hT;have e:z6 jB x (l.take (k+1)) s=kQ jB (jS [⟨#[KE x (ty,wd,vn)]⟩]) s0:=HSN.out;rw[← e] at hT;obtain⟨o2,t1,t2,t3⟩:=hT;exact⟨k+1,by omega,by go_num,o2,t1,HK.1.trans t2 HK.2.size,HK.2.own HK.1 t3⟩
    case measure=>simp[intOf];omega
   have hi':inlineB ty=false:=(by simpa using hi);go_wp2_with fail;refine (Ft.inline_any ty _).mono ?_;rw[hi'];rintro r w1 ⟨rfl,hg⟩;have c0:w1.cell? ⟨wr.heap.size,0,none⟩=some (.int .i64 ty):=hg.cell zp3;have HG1:=zh (((jC.refl wr).alloc _).trans hg);clear hg;go_wp2_with fail;refine (Ft.pack_any ty wd _).mono ?_;rintro r w2 ⟨rfl,hg⟩;have HG2:=zh (HG1.trans hg);have HTB:Hid (KE x (ty,wd,vn)=UInt8.ofNat (packF ty wd).1.toNat):=(by show _=_;simp[KE,hi']);have hpk:=Y0 ty wd;have hb8:(packF ty wd).1=((UInt8.ofNat (packF ty wd).1.toNat).toNat:Int):=(by rw[UInt8.toNat_ofNat'];omega);have HSZ:=zh HG2.size;generalize packF ty wd=pk at *;clear hg c0 hpk;have hst:=ZD (eA w2 pk.1 (UInt8.ofNat pk.1.toNat) hb8);clear hb8;go_wp2_with fail;refine (eB s0 ⟨#[UInt8.ofNat pk.1.toNat]⟩ _ zp2 (HB1.grew (HG2.alloc _)) (zf HBR.out (HG2.alloc _).size) HLE.out hm1 (show (1:Nat)+0≤1073741824 by decide)).mono ?_;rintro r w5 ⟨rfl,ht⟩;have HT:=zh (kO.after (HG2.alloc _) ht);clear ht hst;go_wp2;go_roundw
   case rel=>
    have hT:=HT.out;rw[← HTB.out] at hT;have e:z6 jB x (l.take (k+1)) s=kQ jB (jS [⟨#[KE x (ty,wd,vn)]⟩]) s0:=HSN.out;rw[← e] at hT;obtain⟨o2,t1,t2,t3⟩:=hT;exact⟨k+1,by omega,by go_num,o2,t1,HK.1.trans t2 HK.2.size,HK.2.own HK.1 t3⟩
   case measure=>simp[intOf];omega
  have e:k=l.length:=by omega
  have HF:Hid (kO B w wr p o jB (z6 jB x l s)):=by
   have:=HW.out;rw[e,qn] at this;exact this
  clear HW;go_wp2;go_end0;exact⟨rfl,HF.out⟩
def kN (elem:Int) (v:V3):Int:=if legalB v.1 && decide (v.1≠elem) then 60 else kG v
theorem FB (elem:Int) (v:V3) (pa:Addr) (w:World) (he:w.cell? pa=some (.int .i64 elem)):Calls prog 258 #[vV v,.pointer (some pa)] w λr w'=>r=.returned (.int .i64 (kN elem v))∧jC w w':=by
 obtain⟨ty,wd,n⟩:=v;have H0:Hid (jC w (w.alloc (.cells #[.int .i64 ty,.int .i64 wd,.int .u64 n] 135))):=(jC.refl w).alloc _;show Calls prog 258 #[.agg #[.int .i64 ty,.int .i64 wd,.int .u64 n],.pointer (some pa)] w _;go_enter func258,ntmps258;go_wp2_with fail;refine (Ft.legal_any ty _).mono ?_;by_cases hl:legalB ty=true
 ·rw[hl];rintro r w1 ⟨rfl,hg⟩;have c0:w1.cell? ⟨w.heap.size,0,none⟩=some (.int .i64 ty):=hg.cell zp3;have c1:w1.cell? ⟨w.heap.size,1,none⟩=some (.int .i64 wd):=hg.cell zp3;have c2:w1.cell? ⟨w.heap.size,2,none⟩=some (.int .u64 n):=hg.cell zp3;have ce:w1.cell? pa=some (.int .i64 elem):=hg.cell (H0.cell he);have HG:=zh (H0.trans hg);clear hg;by_cases hne:ty=elem
  ·have HE:Hid (kN elem (ty,wd,n)=kG (ty,wd,n)):=by show _=_;simp[kN,hne]
   subst hne;go_wp2_with fail;refine (cT (ty,wd,n) _).mono ?_;rintro r w2 ⟨rfl,hg⟩;have HG2:=zh (HG.trans hg);clear hg;go_wp2;go_ret;exact⟨by rw[HE];rfl,HG2.out⟩
  have HE:Hid (kN elem (ty,wd,n)=60):=by show _=_;simp[kN,hl,hne]
  go_wp2;go_ret;exact⟨by rw[HE];rfl,HG.out⟩
 have hl':legalB ty=false:=by simpa using hl
 rw[hl'];rintro r w1 ⟨rfl,hg⟩;have c0:w1.cell? ⟨w.heap.size,0,none⟩=some (.int .i64 ty):=hg.cell zp3;have c1:w1.cell? ⟨w.heap.size,1,none⟩=some (.int .i64 wd):=hg.cell zp3;have c2:w1.cell? ⟨w.heap.size,2,none⟩=some (.int .u64 n):=hg.cell zp3;have HE:Hid (kN elem (ty,wd,n)=kG (ty,wd,n)):=by show _=_;simp[kN,hl']
 have HG:=zh (H0.trans hg);clear hg;go_wp2_with fail;refine (cT (ty,wd,n) _).mono ?_;rintro r w2 ⟨rfl,hg⟩;have HG2:=zh (HG.trans hg);clear hg;go_wp2;go_ret;exact⟨by rw[HE];rfl,HG2.out⟩
abbrev fnv (k:Nat) (cap:Array Value):Value:=.func (.func k) #[] cap
theorem FC (w:World):Calls prog 228 #[.int .i64 (-1),.int .i64 0] w λr w'=>r=.returned (.tuple #[.agg #[.int .i64 10,.bool true,fnv 255 #[],fnv 256 #[]],.int .i64 0])∧jC w w':=by
 go_enter func228,ntmps228;go_wp2;refine bodyPost_ret (v:=.tuple #[.agg #[.int .i64 10,.bool true,fnv 255 #[],fnv 256 #[]],.int .i64 0]) ?_ rfl ⟨rfl,?_⟩
 ·simp[results,results228,go_sem,fnv]
 exact ((jC.refl w).alloc _).alloc _
end Go.Proofs.YtdjoffgkndncfaaGreat
namespace Go.Proofs.YtdjoffgkndncfaaGreat
open Go.Proofs.Tryz
open Go Go.ChangeShapes Go.WideShapes Go.ChangeAt Go.RowKit Go.Joins
open Ft (V3 vV okV ValsAt inlineB legalB packF codeF typedF)
def sZ (elem many:Int) (n:Nat):Value:=if (typedF elem many).2=true then .tuple #[.agg #[.int .i64 (typedF elem many).1,.bool (many == 0),fnv 258 #[.pointer (some ⟨n,0,none⟩)],fnv 259 #[]],.int .i64 0] else .tuple #[.agg #[.int .i64 0,.bool false,.nilFunc,.nilFunc],.int .i64 20]
theorem pO (elem many:Int) (h:¬(elem = -1∧many=0)) (w:World):Calls prog 228 #[.int .i64 elem,.int .i64 many] w λr w'=>r=.returned (sZ elem many w.heap.size)∧jC w w'∧w'.cell? ⟨w.heap.size,0,none⟩=some (.int .i64 elem)∧w.heap.size < w'.heap.size:=by
 unfold sZ;have HTY:=λw'=>Ft.typed_any elem many w';generalize typedF elem many=tq at *;obtain⟨tt,tb⟩:=tq;simp only at HTY;have HY:=zh HTY;clear HTY;by_cases he:elem = -1
 ·have hm:¬many=0:=λx=>h ⟨he,x⟩;clear h;subst he;cases tb
  ·go_enter func228,ntmps228;go_wp2_with fail;refine (HY.out _).mono ?_;rintro r w1 ⟨rfl,hg⟩;have c0:w1.cell? ⟨w.heap.size,0,none⟩=some (.int .i64 (-1)):=hg.cell zp3;have HG:Hid (jC w w1):=(((jC.refl w).alloc _).alloc _).trans hg;have HSZ:=hg.size;have hb:w1.heap[w.heap.size+1]? = some (.cells #[.int .i64 0,.bool false,.nilFunc,.nilFunc] 252):=hg.heap zp15;have f4:=jE hb 0;have f5:=jE hb 1;have f6:=jE hb 2;have f7:=jE hb 3;clear hb;have c4:w1.cell? ⟨w.heap.size+1,0,none⟩=some (.int .i64 0):=hg.cell zp3;have c5:w1.cell? ⟨w.heap.size+1,1,none⟩=some (.bool false):=hg.cell zp3;have c6:w1.cell? ⟨w.heap.size+1,2,none⟩=some .nilFunc:=hg.cell zp3;have c7:w1.cell? ⟨w.heap.size+1,3,none⟩=some .nilFunc:=hg.cell zp3;go_wp2;refine bodyPost_ret (v:=.tuple #[.agg #[.int .i64 0,.bool false,.nilFunc,.nilFunc],.int .i64 20]) ?_ rfl ⟨by simp,?_,?_,?_⟩
   ·simp[results,results228,go_sem,fnv,c4,c5,c6,c7,hm]
   ·exact zb44
   ·go_simp
   simp at HSZ⊢;omega
  go_enter func228,ntmps228;go_wp2_with fail;refine (HY.out _).mono ?_;rintro r w1 ⟨rfl,hg⟩;have c0:w1.cell? ⟨w.heap.size,0,none⟩=some (.int .i64 (-1)):=hg.cell zp3;have HG:Hid (jC w w1):=(((jC.refl w).alloc _).alloc _).trans hg;have HSZ:=hg.size;have hb:w1.heap[w.heap.size+1]? = some (.cells #[.int .i64 0,.bool false,.nilFunc,.nilFunc] 252):=hg.heap zp15;have f4:=jE hb 0;have f5:=jE hb 1;have f6:=jE hb 2;have f7:=jE hb 3;clear hb;have c4:w1.cell? ⟨w.heap.size+1,0,none⟩=some (.int .i64 0):=hg.cell zp3;have c5:w1.cell? ⟨w.heap.size+1,1,none⟩=some (.bool false):=hg.cell zp3;have c6:w1.cell? ⟨w.heap.size+1,2,none⟩=some .nilFunc:=hg.cell zp3;have c7:w1.cell? ⟨w.heap.size+1,3,none⟩=some .nilFunc:=hg.cell zp3;go_wp2;refine bodyPost_ret (v:=.tuple #[.agg #[.int .i64 tt,.bool (many == 0),fnv 258 #[.pointer (some ⟨w.heap.size,0,none⟩)],fnv 259 #[]],.int .i64 0]) ?_ rfl ⟨by simp[fnv,hm],?_,?_,?_⟩
  ·simp[results,results228,go_sem,fnv,c4,c5,c6,c7,hm]
  ·exact zb44
  ·go_simp
  simp at HSZ⊢;omega
 clear h;cases tb
 ·go_enter func228,ntmps228;go_wp2_with fail;refine (HY.out _).mono ?_;rintro r w1 ⟨rfl,hg⟩;have c0:w1.cell? ⟨w.heap.size,0,none⟩=some (.int .i64 elem):=hg.cell zp3;have HG:Hid (jC w w1):=(((jC.refl w).alloc _).alloc _).trans hg;have HSZ:=hg.size;have hb:w1.heap[w.heap.size+1]? = some (.cells #[.int .i64 0,.bool false,.nilFunc,.nilFunc] 252):=hg.heap zp16;have f4:=jE hb 0;have f5:=jE hb 1;have f6:=jE hb 2;have f7:=jE hb 3;clear hb;have c4:w1.cell? ⟨w.heap.size+1,0,none⟩=some (.int .i64 0):=hg.cell zp3;have c5:w1.cell? ⟨w.heap.size+1,1,none⟩=some (.bool false):=hg.cell zp3;have c6:w1.cell? ⟨w.heap.size+1,2,none⟩=some .nilFunc:=hg.cell zp3;have c7:w1.cell? ⟨w.heap.size+1,3,none⟩=some .nilFunc:=hg.cell zp3;go_wp2;refine bodyPost_ret (v:=.tuple #[.agg #[.int .i64 0,.bool false,.nilFunc,.nilFunc],.int .i64 20]) ?_ rfl ⟨by simp,?_,?_,?_⟩
  ·simp[results,results228,go_sem,fnv,c4,c5,c6,c7]
  ·exact zb44
  ·go_simp
  simp at HSZ⊢;omega
 go_enter func228,ntmps228;go_wp2_with fail;refine (HY.out _).mono ?_;rintro r w1 ⟨rfl,hg⟩;have c0:w1.cell? ⟨w.heap.size,0,none⟩=some (.int .i64 elem):=hg.cell zp3;have HG:Hid (jC w w1):=(((jC.refl w).alloc _).alloc _).trans hg;have HSZ:=hg.size;have hb:w1.heap[w.heap.size+1]? = some (.cells #[.int .i64 0,.bool false,.nilFunc,.nilFunc] 252):=hg.heap zp16;have f4:=jE hb 0;have f5:=jE hb 1;have f6:=jE hb 2;have f7:=jE hb 3;clear hb;have c4:w1.cell? ⟨w.heap.size+1,0,none⟩=some (.int .i64 0):=hg.cell zp3;have c5:w1.cell? ⟨w.heap.size+1,1,none⟩=some (.bool false):=hg.cell zp3;have c6:w1.cell? ⟨w.heap.size+1,2,none⟩=some .nilFunc:=hg.cell zp3;have c7:w1.cell? ⟨w.heap.size+1,3,none⟩=some .nilFunc:=hg.cell zp3;go_wp2;refine bodyPost_ret (v:=.tuple #[.agg #[.int .i64 tt,.bool (many == 0),fnv 258 #[.pointer (some ⟨w.heap.size,0,none⟩)],fnv 259 #[]],.int .i64 0]) ?_ rfl ⟨by simp[fnv],?_,?_,?_⟩
 ·simp[results,results228,go_sem,fnv,c4,c5,c6,c7]
 ·exact zb44
 ·go_simp
 simp at HSZ⊢;omega
theorem mG (a b c:Value) (w:World):Calls prog 259 #[a,b,c] w λr w'=>r=.returned (.tuple #[])∧jC w w':=by
 go_enter func259,ntmps259;go_wp2
 first | go_end0 | refine bodyPost_ret (results_none rfl _ _ _) rfl ?_
 exact⟨rfl,jC.refl _⟩
end Go.Proofs.YtdjoffgkndncfaaGreat
namespace Go.Proofs.YtdjoffgkndncfaaGreat
open Go.Proofs.Tryz
open Go Go.ChangeShapes Go.WideShapes Go.ChangeAt Go.RowKit Go.Joins
open Ft (V3 vV okV ValsAt inlineB legalB packF codeF typedF allF)
variable {w wn:World} {p B nR nS:Nat} {l:List V3} {lv tg:Value} {o o':Option Nat} {jB kind:Int} {len:Bool} {s:St}
theorem jO {cs:Array Value} {t:TypeId} (h:w.heap[p]? = some (.cells cs t (0,0))) (k:Nat) (v:Value) (hv:cs[k]? = some v):w.cell? ⟨p,k,none⟩=some v:=by
 simp[World.cell?,h,hv]
def yK (T:V3→Int) (e:Int) (l:List V3):Int:=l.foldl (λe v=>if e=0 then T v else e) e
theorem gY (T:V3→Int) {e:Int} (h:e≠0):∀l:List V3,yK T e l=e
 | []=>rfl
 | v::r=>by
  show yK T (if e=0 then T v else e) r=e;rw[ze h];exact gY T h r
theorem VL (T:V3→Int) (e:Int) (l:List V3) (k:Nat) (h:yK T e (l.take k)≠0):yK T e l=yK T e (l.take k):=by
 have:=gY T h (l.drop k);unfold yK at *;rw[← List.foldl_append,List.take_append_drop] at this;exact this
theorem VM (T:V3→Int) (e:Int) (l:List V3) (k:Nat) (h:k < l.length) (h0:yK T e (l.take k)=0):yK T e (l.take (k+1))=T l[k]:=by
 unfold yK at *;rw[List.take_succ_eq_append_getElem h,List.foldl_append];simp only[List.foldl_cons,List.foldl_nil];rw[zl h0]
def yS (jB:Int) (T:V3→Int) (len jX:Bool) (kind e0:Int) (l:List V3) (s:St):(V3 × Int) × St:=
 if yK T e0 l≠0 then (((0,0,0),yK T e0 l),s) else
 let x:=allF l (0,0,0) s.1.length (if len then 1 else 0)
 if x=0 then (((0,0,0),211),s) else
 let s1:=jL jB x s
 let s2:=if len then j9 jB x l.length s1 else s1
 let s3:=jY jB x l s2
 let s4:=if jX then z6 jB x l s3 else s3
 if s4.2≠0 then (((0,0,0),s4.2),s4) else (((kind,x,(s2.1.length:Int)),0),s4)
theorem Q3 {k:V3} {a b:Int} (h:allF l k a b≠0):isW (allF l k a b)=true:=by
 revert h
 unfold allF Ft.leastOf
 repeat' split
 all_goals simp[isW]
def Mid (B:Nat) (w:World) (p:Nat) (o:Option Nat) (jB:Int) (lv:Value) (l:List V3) (nR nS:Nat) (kind:Int) (len:Bool) (tg:Value) (s:St) (o':Option Nat) (wn:World):Prop:=
 yA B wn p o' s.1 jB s.2∧yX w o o'∧Moved (KL p o) w wn∧(∀b,(b=nR∨b=nS∨∃ad n c,lv=.slice (some ad) n c∧ad.block=b)→b < wn.heap.size∧¬KL p o' b)∧ValsAt wn lv l ∧
  wn.heap[nR]? = some (.cells #[.int .i64 0,.int .i64 0,.int .u64 0] 135)∧wn.cell? ⟨nS,0,none⟩=some (.int .i64 kind)∧wn.cell? ⟨nS,1,none⟩=some (.bool len)∧wn.cell? ⟨nS,3,none⟩=some tg
theorem Y1 {w':World} {S:Nat→Prop} (h:ValsAt w lv l) (hm:Moved S w w') (hap:∀ad n c,lv=.slice (some ad) n c→¬S ad.block):ValsAt w' lv l:=by
 obtain⟨a,c,rfl,hc⟩:=h;refine⟨a,c,rfl,λi x hx=>?_⟩;obtain⟨b,off,rfl,h0,h1,h2⟩:=hc i x hx;have hn:¬S b:=hap ⟨b,off,none⟩ _ _ rfl;exact⟨b,off,rfl,hm.cell h0 hn,hm.cell h1 hn,hm.cell h2 hn⟩
theorem Mid.step {s':St} {wm:World} (h:Mid B w p o jB lv l nR nS kind len tg s o' wn) (ht:kO B wn wm p o' jB s') :
 ∃o2,Mid B w p o jB lv l nR nS kind len tg s' o2 wm:=by
 obtain⟨hb,hn,hm,hk,hv,hr,g0,g1,g3⟩:=h;obtain⟨o2,b2,n2,m2⟩:=ht;have kR:=(hk nR (.inl rfl)).2;have kS:=(hk nS (.inr (.inl rfl))).2;refine⟨o2,b2,hn.trans n2 hm.size,hm.own hn m2,λb hb=>?_,Y1 hv m2 λad n c e=>(hk _ (.inr (.inr ⟨ad,n,c,e,rfl⟩))).2,m2.heap hr kR,m2.cell g0 kS,m2.cell g1 kS,m2.cell g3 kS⟩;have h1:=hk b hb;refine⟨qk h1.1 m2.size,?_⟩;rintro (e|e)
 ·exact h1.2 (.inl e)
 rcases n2 b e.symm with e2|e2
 ·exact h1.2 (.inr e2.symm)
 omega
theorem Mid.turnSet (h:Mid B w p o jB lv l nR nS kind len tg s o' wn) (hge:w.heap.size≤nR) (v0 v1 v2:Value) :
 kO B w (((wn.setCell ⟨nR,0,none⟩ v0).setCell ⟨nR,1,none⟩ v1).setCell ⟨nR,2,none⟩ v2) p o jB s:=by
 obtain⟨hb,hn,hm,hk,_⟩:=h;have kR:=(hk nR (.inl rfl)).2
 have m:Moved (λk=>k=nR) wn (((wn.setCell ⟨nR,0,none⟩ v0).setCell ⟨nR,1,none⟩ v1).setCell ⟨nR,2,none⟩ v2):=
  Moved.setCell (S:=λk=>k=nR) (p:=⟨nR,2,none⟩) (Moved.setCell (S:=λk=>k=nR) (p:=⟨nR,1,none⟩) (Moved.setCell (S:=λk=>k=nR) (p:=⟨nR,0,none⟩) (Moved.refl _ wn) (λ_=>rfl) v0) (λ_=>rfl) v1) (λ_=>rfl) v2
 refine⟨o',hb.kept m (λe=>kR (.inl e.symm)) (λk e e2=>kR (.inr (by rw[e,e2]))),hn,hm.trans m λj hj e=>by omega⟩
theorem ok0:okV (0,0,0):=by unfold okV;simp
def J3 (q:V3 × Int):Value:=.tuple #[vV q.1,.int .i64 q.2]
theorem put_un (s:St) (lv:Value) (l:List V3) (h:yA B w p o s.1 jB s.2) (hB:B≤w.heap.size) (hl:(s.1.length:Int)≤jB) (hm1:jB≤1048576)
 (hv:ValsAt w lv l) (kE:l.length≤1048576) (hok:∀v∈l,okV v) (hap:∀ad n c,lv=.slice (some ad) n c→ad.block < w.heap.size∧¬KL p o ad.block) (hs:s.2=0) :
 Calls prog 180 #[jI p,.int .i64 (-1),.int .i64 0,lv] w λr w'=>r=.returned (J3 (yS jB kG true true 10 0 l s).1)∧kO B w w' p o jB (yS jB kG true true 10 0 l s).2:=by
 have HB0:=zh h;have HA:=zh hap;have HOK:=zh hok;have HV:=zh hv;obtain⟨a,c,rfl,kM⟩:=hv;have HC:=zh kM;have HP:=zh (rfl:yS jB kG true true 10 0 l s=yS jB kG true true 10 0 l s);generalize hP:yS jB kG true true 10 0 l s=P;have HPP:=zh hP;clear h hap hok kM HP hP;go_enter func180,ntmps180;go_wp2_with fail;refine (KC (HB0.grew ((jC.refl w).alloc _))).mono ?_;rw[hs];rintro r w1 ⟨rfl,rfl⟩;go_wp2_with fail;refine (FC _).mono ?_;rintro r w1 ⟨rfl,hg⟩;have hb:w1.heap[w.heap.size]? = some (.cells #[.int .i64 0,.int .i64 0,.int .u64 0] 135):=hg.heap (qc _ _);have HR:=zh hb;have HG:Hid (jC w w1):=((jC.refl w).alloc _).trans hg;have HSZ:=zh hg.size;clear hb hg;go_wp2_with fail
 go_loopw [12,13] (λe i wr=>∃k:Nat,k≤l.length∧i=.int .i64 k∧e=.int .i64 (yK kG 0 (l.take k))∧Hid (jC w wr∧wr.heap[w.heap.size]? = some (.cells #[.int .i64 0,.int .i64 0,.int .u64 0] 135)∧wr.cell? ⟨w1.heap.size,0,none⟩=some (.int .i64 10)∧wr.cell? ⟨w1.heap.size,1,none⟩=some (.bool true)∧wr.cell? ⟨w1.heap.size,2,none⟩=some (fnv 255 #[])∧wr.cell? ⟨w1.heap.size,3,none⟩=some (fnv 256 #[]))) (λ_ i _=>l.length - (intOf i).toNat)
 case atStart=>
  refine⟨0,Nat.zero_le _,rfl,rfl,?_⟩;show _∧_;exact⟨HG.alloc _,((jC.refl w1).alloc _).heap HR.out,by go_simp,by go_simp,by go_simp,by go_simp⟩
 case round=>
  obtain⟨k,hk,rfl,rfl,HW⟩:=hrel;by_cases hlt:k < l.length
  ·by_cases he:yK kG 0 (l.take k)=0
   ·obtain⟨bl,off,rfl,q0,q1,q2⟩:=HC.out k l[k] (za hlt);have HSN:=zh (VM kG 0 l k hlt he);have d0:=HW.1.cell q0;have d1:=HW.1.cell q1;have d2:=HW.1.cell q2;have g2:=HW.2.2.2.2.1;rw[he];generalize l[k]=v at *;obtain⟨ty,wd,vn⟩:=v;simp only at d0 d1 d2;clear q0 q1 q2;go_wp2_with fail;refine kH jC [[],[0],[],[],[2,3],[4],[1,5],[6]] [[(54,2),(55,3),(56,4),(57,5),(58,6),(12,7)],[(52,0),(54,2),(55,3),(56,4),(57,5),(12,7)],[(52,0),(53,1),(55,3),(57,5),(58,6),(12,7)],[(52,0),(53,1),(54,2),(57,5),(58,6),(12,7)],[(52,0),(53,1),(54,2),(55,3),(58,6),(12,7)],[(52,0),(53,1),(54,2),(55,3),(56,4),(12,7)],[(52,0),(53,1),(54,2),(55,3),(56,4),(57,5)],[(52,0),(53,1),(54,2),(55,3),(56,4),(57,5),(58,6)]] [(52,0),(53,1),(54,2),(55,3),(56,4),(57,5),(58,6),(12,7)]
     [Is (.pointer (some ⟨w1.heap.size,2,none⟩)),Is (fnv 255 #[]),Is (.slice (some ⟨bl,off,none⟩) l.length c),Is (.int .i64 k),Is (.pointer (some ⟨bl,off+k*3,none⟩)),Is (.agg #[.int .i64 ty,.int .i64 wd,.int .u64 vn]),Is (.int .i64 (kG (ty,wd,vn))),Is (.int .i64 (kG (ty,wd,vn)))]
     zk jC.trans jC.refl (jC.refl _).drew zk ⟨jJ,jJ,jJ,jJ,jJ,jJ,jJ,jJ,trivial⟩ ⟨?_,?_,?_,?_,?_,?_,?_,?_,trivial⟩ rfl ?_
    ·exact zst
    ·exact zb45
    ·exact zst
    ·exact zst
    ·exact zst
    ·exact zb45
    ·intro y w2 hG hD K hK;simp only[kC,zq4,zq5,Is,and_true] at hD;simp only[jF,Act.put,zq,Is] at hK⊢;simp only[hD] at hK⊢;clear hD;refine jN ?_;go_simp;refine (cT (ty,wd,vn) _).mono ?_;rintro r w3 ⟨rfl,hg⟩;exact hK _ _ _ rfl hg rfl
    ·exact zst
    intro y w2 hG hF;simp only[zV,Is,and_true,Nat.reduceAdd] at hF;simp only[jF,Act.put,zq,Is];simp only[hF];clear hF;have HG2:=zh (HW.1.trans hG);have HGG:=zh hG;clear hG;go_wp2;go_roundw
    case rel=>
     have hw:=HW.out;have hgg:=HGG.out;exact⟨k+1,by omega,by go_num,by rw[HSN],HG2.out,hgg.heap hw.2.1,hgg.cell hw.2.2.1,hgg.cell hw.2.2.2.1,hgg.cell hw.2.2.2.2.1,hgg.cell hw.2.2.2.2.2⟩
    case measure=>simp[intOf];omega
   have hF:yS jB kG true true 10 0 l s=(((0,0,0),yK kG 0 (l.take k)),s):=by
    unfold yS;rw[VL kG 0 l k he,zl he]
   have HF:=zh hF;clear hF;generalize yK kG 0 (l.take k)=e at *;obtain⟨hgw,jK,_,_,_,_⟩:=HW.out;have f0:=jE jK 0;have f1:=jE jK 1;have f2:=jE jK 2;have c0:=jO jK 0 _ rfl;have c1:=jO jK 1 _ rfl;have c2:=jO jK 2 _ rfl;have HGW:=zh hgw;clear jK hgw;go_wp2;refine bodyPost_ret (v:=J3 ((0,0,0),e)) ?_ rfl ⟨?_,?_⟩
   ·exact dI
   ·exact nW
   exact zb48
  have ek:k=l.length:=by omega
  rw[ek,qn];by_cases he:yK kG 0 l=0
  ·rw[he];clear hlt;obtain⟨hgw,jK,g0,g1,g2,g3⟩:=HW.out;have HGW:=zh hgw;have KP:=zh jK;clear jK hgw HW;go_wp2_with fail;refine (K6 (HB0.grew HGW.out)).mono ?_;rintro r w3 ⟨rfl,rfl⟩;go_wp2_with fail;refine (Ft.all_any l (0,0,0) _ 1 _ _ zo HOK.out ok0 (HV.grew HGW.out)).mono ?_;rintro r w3 ⟨rfl,hg⟩;have HG3:=zh (HGW.trans hg);have HROW3:=zh (hg.heap KP.out);replace g0:=hg.cell g0;replace g1:=hg.cell g1;replace g3:=hg.cell g3;clear hg g2;by_cases hx:allF l (0,0,0) s.1.length 1=0
   ·have hF:yS jB kG true true 10 0 l s=(((0,0,0),211),s):=by
     unfold yS;rw[ze zp33];simp[hx]
    have HF:=zh hF;clear hF;rw[hx];have jK:=HROW3.out;have f0:=jE jK 0;have f1:=jE jK 1;have f2:=jE jK 2;have c0:=jO jK 0 _ rfl;have c1:=jO jK 1 _ rfl;have c2:=jO jK 2 _ rfl;clear jK;go_wp2;refine bodyPost_ret (v:=J3 ((0,0,0),211)) ?_ rfl ⟨?_,?_⟩
    ·exact dI
    ·exact nW
    exact zb49
   have HX:=zh (Q3 hx);have HXE:=zh (rfl:allF l (0,0,0) s.1.length 1=allF l (0,0,0) s.1.length 1)
   have HF:Hid (∀x,allF l (0,0,0) s.1.length 1=x→x≠0→yS jB kG true true 10 0 l s=if (z6 jB x l (jY jB x l (j9 jB x l.length (jL jB x s)))).2≠0 then (((0,0,0),(z6 jB x l (jY jB x l (j9 jB x l.length (jL jB x s)))).2),z6 jB x l (jY jB x l (j9 jB x l.length (jL jB x s)))) else (((10,x,((j9 jB x l.length (jL jB x s)).1.length:Int)),0),z6 jB x l (jY jB x l (j9 jB x l.length (jL jB x s))))):=by
    show ∀x,_=x→_;intro x hx hx0;unfold yS;rw[ze zp33];simp only[if_true];rw[hx,ze hx0]
   replace HF:=zh (HF.out _ rfl hx)
   have M3:Mid B w p o jB (.slice a l.length c) l w.heap.size w1.heap.size 10 true (fnv 256 #[]) s o w3:=by
    have hs3:=HG3.size;have hlt1:=y7 g0;have hb0:=HB0.lt;have hs1:=HG.size;refine⟨HB0.grew HG3.out,yX.refl _ _,Moved.of_grew HG3.out,?_,HV.grew HG3.out,HROW3.out,g0,g1,g3⟩;rintro b (rfl|rfl|⟨ad,n,c',e,rfl⟩)
    ·exact⟨by simp at hlt1;omega,λh=>by have:=hb0 _ h;omega⟩
    ·exact⟨by simpa using hlt1,λh=>by have:=hb0 _ h;omega⟩
    exact zb50
   have HM3:=zh M3;have HB3:B≤w3.heap.size:=zf hB HG3.size;clear M3 HXE g0 g1 g3 HROW3 KP HG3 HGW;generalize allF l (0,0,0) s.1.length 1=x at *;go_wp2_with fail;refine (ZS s x HM3.1 HB3 hl hm1).mono ?_;rintro r w4 ⟨rfl,ht⟩;have HB4:B≤w4.heap.size:=(by obtain⟨_,_,_,m⟩:=ht;exact zf HB3 m.size);obtain⟨o4,m4⟩:=HM3.step ht;have g1:=m4.2.2.2.2.2.2.2.1;have HM4:=zh m4;clear ht m4;go_wp2_with fail;refine (JF (jL jB x s) x (l.length:Int) HM4.1 HB4 (z8 hl) hm1 zo zo).mono ?_;rintro r w5 ⟨rfl,ht⟩;have HB5:B≤w5.heap.size:=(by obtain⟨_,_,_,m⟩:=ht;exact zf HB4 m.size);obtain⟨o5,m5⟩:=HM4.step ht;have HM5:=zh m5;clear ht m5 g1;go_wp2_with fail;refine (K6 HM5.1).mono ?_;rintro r w6 ⟨rfl,rfl⟩;go_wp2_with fail;refine (VK (j9 jB x l.length (jL jB x s)) x _ l HX.out HM5.1 HB5 (qV (z8 hl)) hm1 HM5.2.2.2.2.1 kE HOK.out (λad n c' e=>(HM5.2.2.2.1 _ (.inr (.inr ⟨ad,n,c',e,rfl⟩))).2)).mono ?_;rintro r w6 ⟨rfl,ht⟩;have HB6:B≤w6.heap.size:=(by obtain⟨_,_,_,m⟩:=ht;exact zf HB5 m.size);obtain⟨o6,m6⟩:=HM5.step ht;have g3:=m6.2.2.2.2.2.2.2.2;have HM6:=zh m6;clear ht m6;go_wp2_with fail;refine (LY (jY jB x l (j9 jB x l.length (jL jB x s))) x _ l HM6.1 HB6 (KX l (qV (z8 hl))) hm1 HM6.2.2.2.2.1 kE (λad n c' e=>(HM6.2.2.2.1 _ (.inr (.inr ⟨ad,n,c',e,rfl⟩))).2)).mono ?_;rintro r w7 ⟨rfl,ht⟩;obtain⟨o7,m7⟩:=HM6.step ht;have g0:=m7.2.2.2.2.2.2.1;have jK:=m7.2.2.2.2.2.1;have HM7:=zh m7;clear ht m7 g3;go_wp2_with fail;refine (KC HM7.1).mono ?_;rintro r w8 ⟨rfl,rfl⟩;have hn2:=qV (x:=x) (u:=(l.length:Int)) (z8 (x:=x) hl);by_cases hz:(z6 jB x l (jY jB x l (j9 jB x l.length (jL jB x s)))).2=0
   ·have HF2:Hid (yS jB kG true true 10 0 l s=(((10,x,((j9 jB x l.length (jL jB x s)).1.length:Int)),0),(z6 jB x l (jY jB x l (j9 jB x l.length (jL jB x s)))))):=HF.trans (ze A4);rw[hz];clear HF hz HM3 HM4 HM5 HM6;generalize (z6 jB x l (jY jB x l (j9 jB x l.length (jL jB x s))))=sf at *;generalize j9 jB x l.length (jL jB x s)=s2 at *;have f0:=jE jK 0;have f1:=jE jK 1;have f2:=jE jK 2;have c0:=jO jK 0 _ rfl;have c1:=jO jK 1 _ rfl;have c2:=jO jK 2 _ rfl;clear jK;go_wp2;refine bodyPost_ret (v:=J3 ((10,x,(s2.1.length:Int)),0)) ?_ rfl ⟨?_,?_⟩
    ·exact dI
    ·rw[← HPP.out,HF2]
    exact zb51
   have HF2:Hid (yS jB kG true true 10 0 l s=(((0,0,0),(z6 jB x l (jY jB x l (j9 jB x l.length (jL jB x s)))).2),(z6 jB x l (jY jB x l (j9 jB x l.length (jL jB x s)))))):=HF.trans (zl A4);clear HF HM3 HM4 HM5 HM6;generalize (z6 jB x l (jY jB x l (j9 jB x l.length (jL jB x s))))=sf at *;have f0:=jE jK 0;have f1:=jE jK 1;have f2:=jE jK 2;have c0:=jO jK 0 _ rfl;have c1:=jO jK 1 _ rfl;have c2:=jO jK 2 _ rfl;clear jK;go_wp2;refine bodyPost_ret (v:=J3 ((0,0,0),sf.2)) ?_ rfl ⟨?_,?_⟩
   ·exact dI
   ·rw[← HPP.out,HF2]
   exact zb51
  have hF:yS jB kG true true 10 0 l s=(((0,0,0),yK kG 0 l),s):=by
   unfold yS;rw[zl he]
  have HF:=zh hF;clear hF;generalize yK kG 0 l=e at *;obtain⟨hgw,jK,_,_,_,_⟩:=HW.out;have f0:=jE jK 0;have f1:=jE jK 1;have f2:=jE jK 2;have c0:=jO jK 0 _ rfl;have c1:=jO jK 1 _ rfl;have c2:=jO jK 2 _ rfl;have HGW:=zh hgw;clear jK hgw;go_wp2;refine bodyPost_ret (v:=J3 ((0,0,0),e)) ?_ rfl ⟨?_,?_⟩
  ·exact dI
  ·exact nW
  exact zb48
theorem LZ (elem kd:Int) (hkd:typedF elem 0=(kd,true)) (hne:elem≠-1) (w:World) (n:Nat) (hn:n=w.heap.size):Calls prog 228 #[.int .i64 elem,.int .i64 0] w λr w'=>r=.returned (.tuple #[.agg #[.int .i64 kd,.bool true,fnv 258 #[.pointer (some ⟨n,0,none⟩)],fnv 259 #[]],.int .i64 0])∧jC w w'∧w'.cell? ⟨n,0,none⟩=some (.int .i64 elem):=by
 subst hn;refine (pO elem 0 (λh=>hne h.1) w).mono ?_;rintro r w' ⟨rfl,hg,hc,_⟩;refine⟨?_,hg,hc⟩;unfold sZ;rw[hkd];rfl
theorem put_ty0 (elem kd:Int) (hkd:typedF elem 0=(kd,true)) (hne:elem≠-1) (s:St) (lv:Value) (l:List V3) (h:yA B w p o s.1 jB s.2) (hB:B≤w.heap.size) (hl:(s.1.length:Int)≤jB) (hm1:jB≤1048576)
 (hv:ValsAt w lv l) (kE:l.length≤1048576) (hok:∀v∈l,okV v) (hap:∀ad n c,lv=.slice (some ad) n c→ad.block < w.heap.size∧¬KL p o ad.block) (hs:s.2=0) :
 Calls prog 180 #[jI p,.int .i64 elem,.int .i64 0,lv] w λr w'=>r=.returned (J3 (yS jB (kN elem) true false kd 0 l s).1)∧kO B w w' p o jB (yS jB (kN elem) true false kd 0 l s).2:=by
 have HB0:=zh h;have HA:=zh hap;have HOK:=zh hok;have HV:=zh hv;obtain⟨a,c,rfl,kM⟩:=hv;have HC:=zh kM;have HP:=zh (rfl:yS jB (kN elem) true false kd 0 l s=yS jB (kN elem) true false kd 0 l s);generalize hP:yS jB (kN elem) true false kd 0 l s=P;have HPP:=zh hP;clear h hap hok kM HP hP;go_enter func180,ntmps180;go_wp2_with fail;refine (KC (HB0.grew ((jC.refl w).alloc _))).mono ?_;rw[hs];rintro r w1 ⟨rfl,rfl⟩;go_wp2_with fail;refine (LZ elem kd hkd hne _ (w.heap.size+1) zp2).mono ?_;rintro r w1 ⟨rfl,hg,hce⟩;have HCE:=zh hce;clear hce hkd;have hb:w1.heap[w.heap.size]? = some (.cells #[.int .i64 0,.int .i64 0,.int .u64 0] 135):=hg.heap (qc _ _);have HR:=zh hb;have HG:Hid (jC w w1):=((jC.refl w).alloc _).trans hg;have HSZ:=zh hg.size;clear hb hg;go_wp2_with fail
 go_loopw [12,13] (λe i wr=>∃k:Nat,k≤l.length∧i=.int .i64 k∧e=.int .i64 (yK (kN elem) 0 (l.take k))∧Hid (jC w wr∧wr.heap[w.heap.size]? = some (.cells #[.int .i64 0,.int .i64 0,.int .u64 0] 135)∧wr.cell? ⟨w1.heap.size,0,none⟩=some (.int .i64 kd)∧wr.cell? ⟨w1.heap.size,1,none⟩=some (.bool true)∧wr.cell? ⟨w1.heap.size,2,none⟩=some (fnv 258 #[.pointer (some ⟨w.heap.size+1,0,none⟩)])∧wr.cell? ⟨w1.heap.size,3,none⟩=some (fnv 259 #[])∧wr.cell? ⟨w.heap.size+1,0,none⟩=some (.int .i64 elem))) (λ_ i _=>l.length - (intOf i).toNat)
 case atStart=>
  refine⟨0,Nat.zero_le _,rfl,rfl,?_⟩;show _∧_;exact⟨HG.alloc _,((jC.refl w1).alloc _).heap HR.out,by go_simp,by go_simp,by go_simp,by go_simp,((jC.refl w1).alloc _).cell HCE.out⟩
 case round=>
  obtain⟨k,hk,rfl,rfl,HW⟩:=hrel;by_cases hlt:k < l.length
  ·by_cases he:yK (kN elem) 0 (l.take k)=0
   ·obtain⟨bl,off,rfl,q0,q1,q2⟩:=HC.out k l[k] (za hlt);have HSN:=zh (VM (kN elem) 0 l k hlt he);have d0:=HW.1.cell q0;have d1:=HW.1.cell q1;have d2:=HW.1.cell q2;have g2:=HW.2.2.2.2.1;rw[he];generalize l[k]=v at *;obtain⟨ty,wd,vn⟩:=v;simp only at d0 d1 d2;clear q0 q1 q2;go_wp2_with fail;refine kH jC [[],[0],[],[],[2,3],[4],[1,5],[6]] [[(54,2),(55,3),(56,4),(57,5),(58,6),(12,7)],[(52,0),(54,2),(55,3),(56,4),(57,5),(12,7)],[(52,0),(53,1),(55,3),(57,5),(58,6),(12,7)],[(52,0),(53,1),(54,2),(57,5),(58,6),(12,7)],[(52,0),(53,1),(54,2),(55,3),(58,6),(12,7)],[(52,0),(53,1),(54,2),(55,3),(56,4),(12,7)],[(52,0),(53,1),(54,2),(55,3),(56,4),(57,5)],[(52,0),(53,1),(54,2),(55,3),(56,4),(57,5),(58,6)]] [(52,0),(53,1),(54,2),(55,3),(56,4),(57,5),(58,6),(12,7)]
     [Is (.pointer (some ⟨w1.heap.size,2,none⟩)),Is (fnv 258 #[.pointer (some ⟨w.heap.size+1,0,none⟩)]),Is (.slice (some ⟨bl,off,none⟩) l.length c),Is (.int .i64 k),Is (.pointer (some ⟨bl,off+k*3,none⟩)),Is (.agg #[.int .i64 ty,.int .i64 wd,.int .u64 vn]),Is (.int .i64 (kN elem (ty,wd,vn))),Is (.int .i64 (kN elem (ty,wd,vn)))]
     zk jC.trans jC.refl (jC.refl _).drew zk ⟨jJ,jJ,jJ,jJ,jJ,jJ,jJ,jJ,trivial⟩ ⟨?_,?_,?_,?_,?_,?_,?_,?_,trivial⟩ rfl ?_
    ·exact zst
    ·exact zb45
    ·exact zst
    ·exact zst
    ·exact zst
    ·exact zb45
    ·exact zb52
    ·exact zst
    intro y w2 hG hF;simp only[zV,Is,and_true,Nat.reduceAdd] at hF;simp only[jF,Act.put,zq,Is];simp only[hF];clear hF;have HG2:=zh (HW.1.trans hG);have HGG:=zh hG;clear hG;go_wp2;go_roundw
    case rel=>
     have hw:=HW.out;have hgg:=HGG.out;exact⟨k+1,by omega,by go_num,by rw[HSN],HG2.out,hgg.heap hw.2.1,hgg.cell hw.2.2.1,hgg.cell hw.2.2.2.1,hgg.cell hw.2.2.2.2.1,hgg.cell hw.2.2.2.2.2.1,hgg.cell hw.2.2.2.2.2.2⟩
    case measure=>simp[intOf];omega
   have hF:yS jB (kN elem) true false kd 0 l s=(((0,0,0),yK (kN elem) 0 (l.take k)),s):=by
    unfold yS;rw[VL (kN elem) 0 l k he,zl he]
   have HF:=zh hF;clear hF;generalize yK (kN elem) 0 (l.take k)=e at *;obtain⟨hgw,jK,_⟩:=HW.out;have f0:=jE jK 0;have f1:=jE jK 1;have f2:=jE jK 2;have c0:=jO jK 0 _ rfl;have c1:=jO jK 1 _ rfl;have c2:=jO jK 2 _ rfl;have HGW:=zh hgw;clear jK hgw;go_wp2;refine bodyPost_ret (v:=J3 ((0,0,0),e)) ?_ rfl ⟨?_,?_⟩
   ·exact dI
   ·exact nW
   exact zb48
  have ek:k=l.length:=by omega
  rw[ek,qn];by_cases he:yK (kN elem) 0 l=0
  ·rw[he];clear hlt;obtain⟨hgw,jK,g0,g1,g2,g3,_⟩:=HW.out;have HGW:=zh hgw;have KP:=zh jK;clear jK hgw HW;go_wp2_with fail;refine (K6 (HB0.grew HGW.out)).mono ?_;rintro r w3 ⟨rfl,rfl⟩;go_wp2_with fail;refine (Ft.all_any l (0,0,0) _ 1 _ _ zo HOK.out ok0 (HV.grew HGW.out)).mono ?_;rintro r w3 ⟨rfl,hg⟩;have HG3:=zh (HGW.trans hg);have HROW3:=zh (hg.heap KP.out);replace g0:=hg.cell g0;replace g1:=hg.cell g1;replace g3:=hg.cell g3;clear hg g2;by_cases hx:allF l (0,0,0) s.1.length 1=0
   ·have hF:yS jB (kN elem) true false kd 0 l s=(((0,0,0),211),s):=by
     unfold yS;rw[ze zp33];simp[hx]
    have HF:=zh hF;clear hF;rw[hx];have jK:=HROW3.out;have f0:=jE jK 0;have f1:=jE jK 1;have f2:=jE jK 2;have c0:=jO jK 0 _ rfl;have c1:=jO jK 1 _ rfl;have c2:=jO jK 2 _ rfl;clear jK;go_wp2;refine bodyPost_ret (v:=J3 ((0,0,0),211)) ?_ rfl ⟨?_,?_⟩
    ·exact dI
    ·exact nW
    exact zb49
   have HX:=zh (Q3 hx);have HXE:=zh (rfl:allF l (0,0,0) s.1.length 1=allF l (0,0,0) s.1.length 1)
   have HF:Hid (∀x,allF l (0,0,0) s.1.length 1=x→x≠0→yS jB (kN elem) true false kd 0 l s=if (jY jB x l (j9 jB x l.length (jL jB x s))).2≠0 then (((0,0,0),(jY jB x l (j9 jB x l.length (jL jB x s))).2),jY jB x l (j9 jB x l.length (jL jB x s))) else (((kd,x,((j9 jB x l.length (jL jB x s)).1.length:Int)),0),jY jB x l (j9 jB x l.length (jL jB x s)))):=by
    show ∀x,_=x→_;intro x hx hx0;unfold yS;rw[ze zp33];simp only[if_true,if_false,Bool.false_eq_true,ze];rw[hx,ze hx0]
   replace HF:=zh (HF.out _ rfl hx)
   have M3:Mid B w p o jB (.slice a l.length c) l w.heap.size w1.heap.size kd true (fnv 259 #[]) s o w3:=by
    have hs3:=HG3.size;have hlt1:=y7 g0;have hb0:=HB0.lt;have hs1:=HG.size;refine⟨HB0.grew HG3.out,yX.refl _ _,Moved.of_grew HG3.out,?_,HV.grew HG3.out,HROW3.out,g0,g1,g3⟩;rintro b (rfl|rfl|⟨ad,n,c',e,rfl⟩)
    ·exact⟨by simp at hlt1;omega,λh=>by have:=hb0 _ h;omega⟩
    ·exact⟨by simpa using hlt1,λh=>by have:=hb0 _ h;omega⟩
    exact zb50
   have HM3:=zh M3;have HB3:B≤w3.heap.size:=zf hB HG3.size;clear M3 HXE g0 g1 g3 HROW3 KP HG3 HGW;generalize allF l (0,0,0) s.1.length 1=x at *;go_wp2_with fail;refine (ZS s x HM3.1 HB3 hl hm1).mono ?_;rintro r w4 ⟨rfl,ht⟩;have HB4:B≤w4.heap.size:=(by obtain⟨_,_,_,m⟩:=ht;exact zf HB3 m.size);obtain⟨o4,m4⟩:=HM3.step ht;have g1:=m4.2.2.2.2.2.2.2.1;have HM4:=zh m4;clear ht m4;go_wp2_with fail;refine (JF (jL jB x s) x (l.length:Int) HM4.1 HB4 (z8 hl) hm1 zo zo).mono ?_;rintro r w5 ⟨rfl,ht⟩;have HB5:B≤w5.heap.size:=(by obtain⟨_,_,_,m⟩:=ht;exact zf HB4 m.size);obtain⟨o5,m5⟩:=HM4.step ht;have HM5:=zh m5;clear ht m5 g1;go_wp2_with fail;refine (K6 HM5.1).mono ?_;rintro r w6 ⟨rfl,rfl⟩;go_wp2_with fail;refine (VK (j9 jB x l.length (jL jB x s)) x _ l HX.out HM5.1 HB5 (qV (z8 hl)) hm1 HM5.2.2.2.2.1 kE HOK.out (λad n c' e=>(HM5.2.2.2.1 _ (.inr (.inr ⟨ad,n,c',e,rfl⟩))).2)).mono ?_;rintro r w6 ⟨rfl,ht⟩;have HB6:B≤w6.heap.size:=(by obtain⟨_,_,_,m⟩:=ht;exact zf HB5 m.size);obtain⟨o6,m6⟩:=HM5.step ht;have g3:=m6.2.2.2.2.2.2.2.2;have HM6:=zh m6;clear ht m6;go_wp2_with fail;refine (mG _ _ _ _).mono ?_;rintro r w7 ⟨rfl,hg⟩;have ht:=(kO.refl (o:=o6) HM6.1).grew hg;obtain⟨o7,m7⟩:=HM6.step ht;have g0:=m7.2.2.2.2.2.2.1;have jK:=m7.2.2.2.2.2.1;have HM7:=zh m7;clear ht m7 g3;go_wp2_with fail;refine (KC HM7.1).mono ?_;rintro r w8 ⟨rfl,rfl⟩;have hn2:=qV (x:=x) (u:=(l.length:Int)) (z8 (x:=x) hl);by_cases hz:(jY jB x l (j9 jB x l.length (jL jB x s))).2=0
   ·have HF2:Hid (yS jB (kN elem) true false kd 0 l s=(((kd,x,((j9 jB x l.length (jL jB x s)).1.length:Int)),0),(jY jB x l (j9 jB x l.length (jL jB x s))))):=HF.trans (ze A4);rw[hz];clear HF hz HM3 HM4 HM5 HM6;generalize (jY jB x l (j9 jB x l.length (jL jB x s)))=sf at *;generalize j9 jB x l.length (jL jB x s)=s2 at *;have f0:=jE jK 0;have f1:=jE jK 1;have f2:=jE jK 2;have c0:=jO jK 0 _ rfl;have c1:=jO jK 1 _ rfl;have c2:=jO jK 2 _ rfl;clear jK;go_wp2;refine bodyPost_ret (v:=J3 ((kd,x,(s2.1.length:Int)),0)) ?_ rfl ⟨?_,?_⟩
    ·exact dI
    ·rw[← HPP.out,HF2]
    exact zb51
   have HF2:Hid (yS jB (kN elem) true false kd 0 l s=(((0,0,0),(jY jB x l (j9 jB x l.length (jL jB x s))).2),(jY jB x l (j9 jB x l.length (jL jB x s))))):=HF.trans (zl A4);clear HF HM3 HM4 HM5 HM6;generalize (jY jB x l (j9 jB x l.length (jL jB x s)))=sf at *;have f0:=jE jK 0;have f1:=jE jK 1;have f2:=jE jK 2;have c0:=jO jK 0 _ rfl;have c1:=jO jK 1 _ rfl;have c2:=jO jK 2 _ rfl;clear jK;go_wp2;refine bodyPost_ret (v:=J3 ((0,0,0),sf.2)) ?_ rfl ⟨?_,?_⟩
   ·exact dI
   ·rw[← HPP.out,HF2]
   exact zb51
  have hF:yS jB (kN elem) true false kd 0 l s=(((0,0,0),yK (kN elem) 0 l),s):=by
   unfold yS;rw[zl he]
  have HF:=zh hF;clear hF;generalize yK (kN elem) 0 l=e at *;obtain⟨hgw,jK,_⟩:=HW.out;have f0:=jE jK 0;have f1:=jE jK 1;have f2:=jE jK 2;have c0:=jO jK 0 _ rfl;have c1:=jO jK 1 _ rfl;have c2:=jO jK 2 _ rfl;have HGW:=zh hgw;clear jK hgw;go_wp2;refine bodyPost_ret (v:=J3 ((0,0,0),e)) ?_ rfl ⟨?_,?_⟩
  ·exact dI
  ·exact nW
  exact zb48
theorem L0 (elem kd:Int) (m:Nat) (hkd:typedF elem (m:Int)=(kd,true)) (hpos:0 < m) (w:World) (n:Nat) (hn:n=w.heap.size):Calls prog 228 #[.int .i64 elem,.int .i64 (m:Int)] w λr w'=>r=.returned (.tuple #[.agg #[.int .i64 kd,.bool false,fnv 258 #[.pointer (some ⟨n,0,none⟩)],fnv 259 #[]],.int .i64 0])∧jC w w'∧w'.cell? ⟨n,0,none⟩=some (.int .i64 elem):=by
 subst hn;refine (pO elem m (λh=>by omega) w).mono ?_;rintro r w' ⟨rfl,hg,hc,_⟩;refine⟨?_,hg,hc⟩;unfold sZ;rw[hkd,zl rfl,show ((m:Int) == 0)=false by simp;omega]
theorem put_fix (elem kd:Int) (s:St) (lv:Value) (l:List V3) (hkd:typedF elem (l.length:Int)=(kd,true)) (hpos:0 < l.length) (h:yA B w p o s.1 jB s.2) (hB:B≤w.heap.size) (hl:(s.1.length:Int)≤jB) (hm1:jB≤1048576)
 (hv:ValsAt w lv l) (kE:l.length≤1048576) (hok:∀v∈l,okV v) (hap:∀ad n c,lv=.slice (some ad) n c→ad.block < w.heap.size∧¬KL p o ad.block) (hs:s.2=0) :
 Calls prog 180 #[jI p,.int .i64 elem,.int .i64 (l.length:Int),lv] w λr w'=>r=.returned (J3 (yS jB (kN elem) false false kd 0 l s).1)∧kO B w w' p o jB (yS jB (kN elem) false false kd 0 l s).2:=by
 have HB0:=zh h;have HA:=zh hap;have HOK:=zh hok;have HV:=zh hv;obtain⟨a,c,rfl,kM⟩:=hv;have HC:=zh kM;have HP:=zh (rfl:yS jB (kN elem) false false kd 0 l s=yS jB (kN elem) false false kd 0 l s);generalize hP:yS jB (kN elem) false false kd 0 l s=P;have HPP:=zh hP;clear h hap hok kM HP hP;go_enter func180,ntmps180;go_wp2_with fail;refine (KC (HB0.grew ((jC.refl w).alloc _))).mono ?_;rw[hs];rintro r w1 ⟨rfl,rfl⟩;go_wp2_with fail;refine (L0 elem kd l.length hkd hpos _ (w.heap.size+1) zp2).mono ?_;rintro r w1 ⟨rfl,hg,hce⟩;have HCE:=zh hce;clear hce hkd;have hb:w1.heap[w.heap.size]? = some (.cells #[.int .i64 0,.int .i64 0,.int .u64 0] 135):=hg.heap (qc _ _);have HR:=zh hb;have HG:Hid (jC w w1):=((jC.refl w).alloc _).trans hg;have HSZ:=zh hg.size;clear hb hg;go_wp2_with fail
 go_loopw [12,13] (λe i wr=>∃k:Nat,k≤l.length∧i=.int .i64 k∧e=.int .i64 (yK (kN elem) 0 (l.take k))∧Hid (jC w wr∧wr.heap[w.heap.size]? = some (.cells #[.int .i64 0,.int .i64 0,.int .u64 0] 135)∧wr.cell? ⟨w1.heap.size,0,none⟩=some (.int .i64 kd)∧wr.cell? ⟨w1.heap.size,1,none⟩=some (.bool false)∧wr.cell? ⟨w1.heap.size,2,none⟩=some (fnv 258 #[.pointer (some ⟨w.heap.size+1,0,none⟩)])∧wr.cell? ⟨w1.heap.size,3,none⟩=some (fnv 259 #[])∧wr.cell? ⟨w.heap.size+1,0,none⟩=some (.int .i64 elem))) (λ_ i _=>l.length - (intOf i).toNat)
 case atStart=>
  refine⟨0,Nat.zero_le _,rfl,rfl,?_⟩;show _∧_;exact⟨HG.alloc _,((jC.refl w1).alloc _).heap HR.out,by go_simp,by go_simp,by go_simp,by go_simp,((jC.refl w1).alloc _).cell HCE.out⟩
 case round=>
  obtain⟨k,hk,rfl,rfl,HW⟩:=hrel;by_cases hlt:k < l.length
  ·by_cases he:yK (kN elem) 0 (l.take k)=0
   ·obtain⟨bl,off,rfl,q0,q1,q2⟩:=HC.out k l[k] (za hlt);have HSN:=zh (VM (kN elem) 0 l k hlt he);have d0:=HW.1.cell q0;have d1:=HW.1.cell q1;have d2:=HW.1.cell q2;have g2:=HW.2.2.2.2.1;rw[he];generalize l[k]=v at *;obtain⟨ty,wd,vn⟩:=v;simp only at d0 d1 d2;clear q0 q1 q2;go_wp2_with fail;refine kH jC [[],[0],[],[],[2,3],[4],[1,5],[6]] [[(54,2),(55,3),(56,4),(57,5),(58,6),(12,7)],[(52,0),(54,2),(55,3),(56,4),(57,5),(12,7)],[(52,0),(53,1),(55,3),(57,5),(58,6),(12,7)],[(52,0),(53,1),(54,2),(57,5),(58,6),(12,7)],[(52,0),(53,1),(54,2),(55,3),(58,6),(12,7)],[(52,0),(53,1),(54,2),(55,3),(56,4),(12,7)],[(52,0),(53,1),(54,2),(55,3),(56,4),(57,5)],[(52,0),(53,1),(54,2),(55,3),(56,4),(57,5),(58,6)]] [(52,0),(53,1),(54,2),(55,3),(56,4),(57,5),(58,6),(12,7)]
     [Is (.pointer (some ⟨w1.heap.size,2,none⟩)),Is (fnv 258 #[.pointer (some ⟨w.heap.size+1,0,none⟩)]),Is (.slice (some ⟨bl,off,none⟩) l.length c),Is (.int .i64 k),Is (.pointer (some ⟨bl,off+k*3,none⟩)),Is (.agg #[.int .i64 ty,.int .i64 wd,.int .u64 vn]),Is (.int .i64 (kN elem (ty,wd,vn))),Is (.int .i64 (kN elem (ty,wd,vn)))]
     zk jC.trans jC.refl (jC.refl _).drew zk ⟨jJ,jJ,jJ,jJ,jJ,jJ,jJ,jJ,trivial⟩ ⟨?_,?_,?_,?_,?_,?_,?_,?_,trivial⟩ rfl ?_
    ·exact zst
    ·exact zb45
    ·exact zst
    ·exact zst
    ·exact zst
    ·exact zb45
    ·exact zb52
    ·exact zst
    intro y w2 hG hF;simp only[zV,Is,and_true,Nat.reduceAdd] at hF;simp only[jF,Act.put,zq,Is];simp only[hF];clear hF;have HG2:=zh (HW.1.trans hG);have HGG:=zh hG;clear hG;go_wp2;go_roundw
    case rel=>
     have hw:=HW.out;have hgg:=HGG.out;exact⟨k+1,by omega,by go_num,by rw[HSN],HG2.out,hgg.heap hw.2.1,hgg.cell hw.2.2.1,hgg.cell hw.2.2.2.1,hgg.cell hw.2.2.2.2.1,hgg.cell hw.2.2.2.2.2.1,hgg.cell hw.2.2.2.2.2.2⟩
    case measure=>simp[intOf];omega
   have hF:yS jB (kN elem) false false kd 0 l s=(((0,0,0),yK (kN elem) 0 (l.take k)),s):=by
    unfold yS;rw[VL (kN elem) 0 l k he,zl he]
   have HF:=zh hF;clear hF;generalize yK (kN elem) 0 (l.take k)=e at *;obtain⟨hgw,jK,_⟩:=HW.out;have f0:=jE jK 0;have f1:=jE jK 1;have f2:=jE jK 2;have c0:=jO jK 0 _ rfl;have c1:=jO jK 1 _ rfl;have c2:=jO jK 2 _ rfl;have HGW:=zh hgw;clear jK hgw;go_wp2;refine bodyPost_ret (v:=J3 ((0,0,0),e)) ?_ rfl ⟨?_,?_⟩
   ·exact dI
   ·exact nW
   exact zb48
  have ek:k=l.length:=by omega
  rw[ek,qn];by_cases he:yK (kN elem) 0 l=0
  ·rw[he];clear hlt;obtain⟨hgw,jK,g0,g1,g2,g3,_⟩:=HW.out;have HGW:=zh hgw;have KP:=zh jK;clear jK hgw HW;go_wp2_with fail;refine (K6 (HB0.grew HGW.out)).mono ?_;rintro r w3 ⟨rfl,rfl⟩;go_wp2_with fail;refine (Ft.all_any l (0,0,0) _ 0 _ _ zo HOK.out ok0 (HV.grew HGW.out)).mono ?_;rintro r w3 ⟨rfl,hg⟩;have HG3:=zh (HGW.trans hg);have HROW3:=zh (hg.heap KP.out);replace g0:=hg.cell g0;replace g1:=hg.cell g1;replace g3:=hg.cell g3;clear hg g2;by_cases hx:allF l (0,0,0) s.1.length 0=0
   ·have hF:yS jB (kN elem) false false kd 0 l s=(((0,0,0),211),s):=by
     unfold yS;rw[ze zp33];simp[hx]
    have HF:=zh hF;clear hF;rw[hx];have jK:=HROW3.out;have f0:=jE jK 0;have f1:=jE jK 1;have f2:=jE jK 2;have c0:=jO jK 0 _ rfl;have c1:=jO jK 1 _ rfl;have c2:=jO jK 2 _ rfl;clear jK;go_wp2;refine bodyPost_ret (v:=J3 ((0,0,0),211)) ?_ rfl ⟨?_,?_⟩
    ·exact dI
    ·exact nW
    exact zb49
   have HX:=zh (Q3 hx);have HXE:=zh (rfl:allF l (0,0,0) s.1.length 0=allF l (0,0,0) s.1.length 0)
   have HF:Hid (∀x,allF l (0,0,0) s.1.length 0=x→x≠0→yS jB (kN elem) false false kd 0 l s=if (jY jB x l (jL jB x s)).2≠0 then (((0,0,0),(jY jB x l (jL jB x s)).2),jY jB x l (jL jB x s)) else (((kd,x,((jL jB x s).1.length:Int)),0),jY jB x l (jL jB x s))):=by
    show ∀x,_=x→_;intro x hx hx0;unfold yS;rw[ze zp33];simp only[if_true,if_false,Bool.false_eq_true,ze];rw[hx,ze hx0]
   replace HF:=zh (HF.out _ rfl hx)
   have M3:Mid B w p o jB (.slice a l.length c) l w.heap.size w1.heap.size kd false (fnv 259 #[]) s o w3:=by
    have hs3:=HG3.size;have hlt1:=y7 g0;have hb0:=HB0.lt;have hs1:=HG.size;refine⟨HB0.grew HG3.out,yX.refl _ _,Moved.of_grew HG3.out,?_,HV.grew HG3.out,HROW3.out,g0,g1,g3⟩;rintro b (rfl|rfl|⟨ad,n,c',e,rfl⟩)
    ·exact⟨by simp at hlt1;omega,λh=>by have:=hb0 _ h;omega⟩
    ·exact⟨by simpa using hlt1,λh=>by have:=hb0 _ h;omega⟩
    exact zb50
   have HM3:=zh M3;have HB3:B≤w3.heap.size:=zf hB HG3.size;clear M3 HXE g0 g1 g3 HROW3 KP HG3 HGW;generalize allF l (0,0,0) s.1.length 0=x at *;go_wp2_with fail;refine (ZS s x HM3.1 HB3 hl hm1).mono ?_;rintro r w4 ⟨rfl,ht⟩;have HB4:B≤w4.heap.size:=(by obtain⟨_,_,_,m⟩:=ht;exact zf HB3 m.size);obtain⟨o4,m4⟩:=HM3.step ht;have g1:=m4.2.2.2.2.2.2.2.1;have HM4:=zh m4;clear ht m4;go_wp2_with fail;refine (K6 HM4.1).mono ?_;rintro r w6 ⟨rfl,rfl⟩;go_wp2_with fail;refine (VK (jL jB x s) x _ l HX.out HM4.1 HB4 (z8 hl) hm1 HM4.2.2.2.2.1 kE HOK.out (λad n c' e=>(HM4.2.2.2.1 _ (.inr (.inr ⟨ad,n,c',e,rfl⟩))).2)).mono ?_;rintro r w6 ⟨rfl,ht⟩;have HB6:B≤w6.heap.size:=(by obtain⟨_,_,_,m⟩:=ht;exact zf HB4 m.size);obtain⟨o6,m6⟩:=HM4.step ht;have g3:=m6.2.2.2.2.2.2.2.2;have HM6:=zh m6;clear ht m6;go_wp2_with fail;refine (mG _ _ _ _).mono ?_;rintro r w7 ⟨rfl,hg⟩;have ht:=(kO.refl (o:=o6) HM6.1).grew hg;obtain⟨o7,m7⟩:=HM6.step ht;have g0:=m7.2.2.2.2.2.2.1;have jK:=m7.2.2.2.2.2.1;have HM7:=zh m7;clear ht m7 g3;go_wp2_with fail;refine (KC HM7.1).mono ?_;rintro r w8 ⟨rfl,rfl⟩;have hn2:=z8 (x:=x) hl;by_cases hz:(jY jB x l (jL jB x s)).2=0
   ·have HF2:Hid (yS jB (kN elem) false false kd 0 l s=(((kd,x,((jL jB x s).1.length:Int)),0),(jY jB x l (jL jB x s)))):=HF.trans (ze A4);rw[hz];clear HF hz HM3 HM4 HM6;generalize (jY jB x l (jL jB x s))=sf at *;generalize jL jB x s=s2 at *;have f0:=jE jK 0;have f1:=jE jK 1;have f2:=jE jK 2;have c0:=jO jK 0 _ rfl;have c1:=jO jK 1 _ rfl;have c2:=jO jK 2 _ rfl;clear jK;go_wp2;refine bodyPost_ret (v:=J3 ((kd,x,(s2.1.length:Int)),0)) ?_ rfl ⟨?_,?_⟩
    ·exact dI
    ·rw[← HPP.out,HF2]
    exact zb51
   have HF2:Hid (yS jB (kN elem) false false kd 0 l s=(((0,0,0),(jY jB x l (jL jB x s)).2),(jY jB x l (jL jB x s)))):=HF.trans (zl A4);clear HF HM3 HM4 HM6;generalize (jY jB x l (jL jB x s))=sf at *;have f0:=jE jK 0;have f1:=jE jK 1;have f2:=jE jK 2;have c0:=jO jK 0 _ rfl;have c1:=jO jK 1 _ rfl;have c2:=jO jK 2 _ rfl;clear jK;go_wp2;refine bodyPost_ret (v:=J3 ((0,0,0),sf.2)) ?_ rfl ⟨?_,?_⟩
   ·exact dI
   ·rw[← HPP.out,HF2]
   exact zb51
  have hF:yS jB (kN elem) false false kd 0 l s=(((0,0,0),yK (kN elem) 0 l),s):=by
   unfold yS;rw[zl he]
  have HF:=zh hF;clear hF;generalize yK (kN elem) 0 l=e at *;obtain⟨hgw,jK,_⟩:=HW.out;have f0:=jE jK 0;have f1:=jE jK 1;have f2:=jE jK 2;have c0:=jO jK 0 _ rfl;have c1:=jO jK 1 _ rfl;have c2:=jO jK 2 _ rfl;have HGW:=zh hgw;clear jK hgw;go_wp2;refine bodyPost_ret (v:=J3 ((0,0,0),e)) ?_ rfl ⟨?_,?_⟩
  ·exact dI
  ·exact nW
  exact zb48
end Go.Proofs.YtdjoffgkndncfaaGreat
