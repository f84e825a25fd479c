/-
  BuildMaps: in a map's document the keys rise and each value answers to its key.
-/
import Derived.Test.YtjnpcddbgfmpcaaGreatDoorBMapsPAA
import Derived.Test.YtjnpcddbgfmpcaaGreatDoorCards
import Derived.Test.YtjnpcddbgfmpcaaGreatDoorTie
import Derived.SevenTiedAt
import Derived.Test.YtjnpcddbgfmpcaaGreatDoorBMapsPBZ
import Derived.Shelf.Vars
set_option linter.unusedVariables false
set_option linter.unusedSimpArgs false
set_option maxHeartbeats 16000000
set_option maxRecDepth 100000
namespace Go.Proofs.YtjnpcddbgfmpcaaGreatDoor
open Go.Proofs.Tryz
open Go.ChangeMaps (open_string shut_string)
open Go Go.ChangeShapes Go.WideShapes Go.ChangeAt Go.RowKit Go.Joins
open Go.Deep
open Go.Proofs.YtjnpcddbgfmpcaaGreatDoor.Ft (V3 vV okV ValsAt inlineB legalB packF codeF typedF allF)
theorem inc_at:∀{l:List ByteArray} {i:Nat} {a b:ByteArray},cU l=true→l[i]? = some a→l[i+1]? = some b→ltS a b=true
 | [],_,_,_,_,h,_=>by simp at h
 | [_],_,_,_,_,_,h=>by simp at h
 | x::y::r,0,a,b,hi,ha,hb=>by
  have h:(ltS x y && cU (y::r))=true:=hi
  rw[Bool.and_eq_true] at h
  simp at ha hb
  subst ha hb
  exact h.1
 | x::y::r,i+1,a,b,hi,ha,hb=>by
  have h:(ltS x y && cU (y::r))=true:=hi
  rw[Bool.and_eq_true] at h
  exact inc_at (l:=y::r) (i:=i) h.2 (by simpa using ha) (by simpa using hb)
theorem leq_no {a b:ByteArray} (h:ltS a b=true):(Op.bytesLess b.toList a.toList || b.toList == a.toList)=false:=by
 have h1:ltS b a=false:=by
  cases hc:ltS b a with
  | false=>rfl
  | true=>have:=JG h hc;rw[vC] at this;cases this
 have h2:¬b=a:=fun e=>by rw[e,vC] at h;cases h
 rw[nZ,h1,YY,decide_eq_false h2]
 rfl
theorem buildMaps_any (fl mx:Int) (lv:Value) (l:List ByteArray) (w:World) (h:kO w lv l) (hm:w.cell? ⟨0,0,none⟩=some (.int .i64 mx)) :
 Calls prog 4 #[lv,.int .i64 fl] w fun r w'=>r=.returned (.bool true)∧Below w.heap.size w w':=by
 obtain⟨ad,c,rfl,hlc,hcm,_,j2⟩:=h
 have HC:=zh j2
 have HM:=zh hm
 have hl:l.length≤9223372036854775807:=by unfold k9 at hcm;omega
 clear j2 hcm hm hlc
 go_enter func4,ntmps4
 go_wp2_with fail
 refine (lV _).mono ?_
 rintro r w0 ⟨rfl,hb⟩
 have HG0:=zh hb
 clear hb
 go_wp2_with fail
 refine ((Lv.nil w0).new fl 1048576).mono ?_
 rintro r w1 ⟨q1,rfl,hl'⟩
 rw[show y8 1048576=1048576 from rfl] at hl'
 have HLS:Hid (LvS w0 q1 1048576 fl BS.new (.slice none 0 0) [] w1):=LvS.start hl'
 clear hl'
 go_wp2_with fail
 go_loopw [6,7] (fun v i wr=>∃k:Nat,k≤l.length∧k≤40∧i=.int .i64 k∧∃(L:List ByteArray) (x:BS),L.length≤k∧Hid (L.Nodup∧∀q∈L,yI q=0∧q.size≤40∧(0:UInt8)∉q.data.toList)∧Hid (MB L x∧x.Good)∧Hid (LvS w0 q1 1048576 fl x v L wr)) (fun _ i _=>l.length - (intOf i).toNat)
 case atStart=>exact⟨0,Nat.zero_le _,by omega,rfl,[],BS.new,Nat.le_refl _,⟨List.nodup_nil,fun q hq=>by cases hq⟩,⟨MB.nil,BS.Good.new⟩,HLS.out⟩
 case round=>
  generalize wr=wo at *
  obtain⟨k,hk,hk40,rfl,L,x,hLk,HLK,HMB,HS⟩:=hrel
  clear HLS
  have HG:=zh (show jA w wo from Below.trans HG0.out (Below.mono HS.out.below HG0.out.size))
  obtain⟨va,vc,rfl,_,_,_⟩:=j7 HS.out.own
  have hLL:L.length≤40:=by omega
  have hkc:vY L≤41*L.length:=lW (n:=40) L (fun q hq=>(HLK.out.2 q hq).2.1)
  by_cases hlt:k < l.length∧k < 40
  ·obtain⟨hlt,hk4⟩:=hlt
   obtain⟨y0,hx⟩:∃x,l[k]? = some x:=⟨_,List.getElem?_eq_getElem hlt⟩
   obtain⟨hz,b,off,rfl,c0⟩:=HC.out k y0 hx
   have HZ:=zh hz
   have d0:=HG.out.cell c0
   have HR:Hid (∀W,jA w W→Calls prog 6 #[.string (yP y0 40),.string ⟨#[0]⟩,.string ⟨#[45]⟩] W fun r w'=>r=.returned (.string (Q4 (yP y0 40)))∧jA W w'):=fun W hg=>tK _ mx W (by rw[vP];omega) (hg.cell HM.out)
   have hXs:(Q4 (yP y0 40)).size≤40:=by rw[nM,vP];omega
   have HXK:=zh (And.intro (rG (yP y0 40)) (cR (yP y0 40)))
   clear hx hz c0
   have hki:(k:Int) < l.length:=by omega
   have hki4:(k:Int) < 40:=by omega
   go_wp2_with fail
   refine (YX _ y0 40 HZ.out (by decide)).mono ?_
   rintro r w2 ⟨rfl,rfl⟩
   go_wp2_with fail
   refine (HR.out _ HG.out).mono ?_
   rintro r w3 ⟨rfl,hg⟩
   replace HS:=zh (HS.out.grew hg)
   clear hg d0 HR HZ HG
   generalize Q4 (yP y0 40)=X at *
   have HT:=zh (HS.out.own.strs (fun q hq=>by have:=(HLK.out.2 q hq).2.1;unfold k9;omega))
   go_wp2_with fail
   go_loopw [9,10] (fun hv jv wr=>∃j:Nat,j≤L.length∧jv=.int .i64 j∧hv=.bool (dD (L.take j) X)∧Hid (jA w3 wr)) (fun _ jv _=>L.length - (intOf jv).toNat)
   case atStart=>exact⟨0,Nat.zero_le _,rfl,by simp[dD],jA.refl _⟩
   case round=>
    generalize wr=w4 at *
    obtain⟨j,hj,rfl,rfl,HI⟩:=hrel
    by_cases hjl:j < L.length
    ·obtain⟨y,hy⟩:∃y,L[j]? = some y:=⟨_,List.getElem?_eq_getElem hjl⟩
     have HST:=zh (tJ X hy)
     obtain⟨_,_,ee,_,_,_,hcl⟩:=HT.out
     cases ee
     obtain⟨_,b2,off2,rfl,c2⟩:=hcl j y hy
     have d2:=HI.out.cell c2
     have hji:(j:Int) < L.length:=by omega
     clear c2 hcl hy
     obtain⟨hb,hhb⟩:∃hb,dD (L.take j) X=hb:=⟨_,rfl⟩
     rw[hhb] at HST⊢
     cases hb
     ·rw[Bool.false_or] at HST
      go_wp2_with fail
      go_roundw
      case rel=>exact⟨j+1,by omega,by go_num,by rw[← HST.out],HI.out⟩
      case measure=>simp[intOf];omega
     ·rw[Bool.true_or] at HST
      go_wp2_with fail
      go_roundw
      case rel=>exact⟨j+1,by omega,by go_num,by rw[← HST.out],HI.out⟩
      case measure=>simp[intOf];omega
    ·have ej:j=L.length:=by omega
     subst ej
     rw[List.take_length]
     clear hjl
     replace HS:=zh (HS.out.grew HI.out)
     obtain⟨hd,hhd⟩:∃hd,dD L X=hd:=⟨_,rfl⟩
     rw[hhd]
     cases hd
     ·have HN:=zh (had_no.1 hhd)
      have hwu:IntKind.u64.wrap (L.length:Int)=L.length:=by first | (rw[IntKind.wrap_u64];omega) | (simp[IntKind.wrap,IntKind.bits,IntKind.signed];omega)
      clear hhd
      go_wp2_with fail
      refine (HS.out.call (P:=fun r=>r=.returned (.tuple #[])) (x':=x.key 1048576 (onF fl 1) X) fun κ hb=>iZ X (by omega) HMB.out.2 hb).mono ?_
      rintro r w5 ⟨rfl,hs⟩
      have HS5:=zh hs
      clear hs HS
      go_wp2_with fail
      refine (HS5.out.call (P:=fun r=>r=.returned (.tuple #[])) (x':=(x.key 1048576 (onF fl 1) X).inline (yR (L.length:Int))) fun κ hb=>eK (L.length:Int) (by omega) (by omega) hb).mono ?_
      rintro r w6 ⟨rfl,hs⟩
      have HS6:=zh hs
      clear hs HS5
      have HMB2:=zh (And.intro (HMB.out.1.step (most:=1048576) (sh:=onF fl 1) HXK.out.1 hLL (by omega)) (BS.Good.inline (v:=yR (L.length:Int)) (BS.Good.key (most:=1048576) (sh:=onF fl 1) (k:=X) HMB.out.2)))
      have HO2:Hid (∀o,yN (w6.alloc o) w0.heap.size (.slice va L.length vc) L):=fun o=>HS6.out.own.grew ((jA.refl _).alloc o)
      have HSZ:Hid (w0.heap.size≤w6.heap.size):=HS6.out.below.size
      have HLN:Hid (L.length≤40):=hLL
      have hXz:Hid (k9 X.size):=by show k9 _;unfold k9;omega
      go_wp2_with (at_builtin;refine JO rfl _ _ rfl w0.heap.size (.slice va L.length vc) L rfl (HO2.out _) _ [X] rfl (aY _ _ hXz.out) (by have:=HLN.out;simp;omega) (Nat.le_trans HSZ.out (by simp)) ?_;intro v' w7 j3 hgr hqq;obtain⟨va2,vc2,rfl,_,_,_⟩:=j7 j3;have HS7:=zh (HS6.out.app j3 hgr hqq);clear j3 hgr hqq)
      go_roundw
      case rel=>
       refine⟨k+1,by omega,by omega,by go_num,L++[X],_,by rw[List.length_append,List.length_singleton];omega,⟨List.nodup_append.2 ⟨HLK.out.1,by simp,fun a ha b hb e=>HN.out (by rw[List.mem_singleton] at hb;rw[← hb,← e];exact ha)⟩,fun q hq=>?_⟩,HMB2.out,by have hh:=HS7.out;rw[List.length_append] at hh;exact hh⟩
       rcases List.mem_append.1 hq with hq|hq
       ·exact HLK.out.2 q hq
       ·obtain rfl:=List.mem_singleton.1 hq
        exact⟨HXK.out.1,hXs,HXK.out.2⟩
      case measure=>simp[intOf];omega
     ·clear hhd
      go_wp2_with fail
      go_roundw
      case rel=>exact⟨k+1,by omega,by omega,by go_num,L,x,by omega,HLK.out,HMB.out,HS.out⟩
      case measure=>simp[intOf];omega
  ·obtain⟨Kp,hlv,hkeep⟩:=HS.out.lv
   have HLV:=zh hlv
   have HKEEP:=zh hkeep
   obtain⟨dx,X,p,names,us,hfin,⟨m,ww,T,off,hr,ho⟩,hX,hM,hul,hus⟩:=map_doc (sh:=onF fl 4) HMB.out.1 HLK.out.1 (fun q hq=>(HLK.out.2 q hq).1) (by omega) (by omega)
   have HFIN:=zh hfin
   have HR:=zh hr
   have HMR:=zh hM
   have HUS:=zh hus
   have hgood:Hid x.Good:=HMB.out.2
   clear hlv hkeep hfin hr hM hus HS HMB
   obtain⟨Y,hY⟩:∃Y,x.endMap 1048576 (onF fl 4) 0=Y:=⟨_,rfl⟩
   rw[hY] at HFIN
   rcases (show (¬(k:Int) < l.length)∨((k:Int) < l.length∧¬(k:Int) < 40) by omega) with eki|⟨eki,e40⟩
   all_goals
    clear hlt
    go_wp2_with fail
    refine (HLV.out.call (P:=fun r=>r=.returned (.tuple #[])) (x':=Y) 0 rfl fun κ hb _=>by rw[← hY];exact V9 0 hgood.out hb).mono ?_
    rintro r w2 ⟨rfl,hl⟩
    have HL':Hid (Lv w0 [⟨q1,1048576,fl,Y⟩] Kp w2):=hl
    clear hl HLV hY hgood
    go_wp2_with fail
    refine (HL'.out.fin 0 rfl).mono ?_
    dsimp only
    rw[HFIN.out]
    rintro r w3 ⟨ax,cx,K1,rfl,hl,hsub,hb⟩
    have HBel:=zh (Below.trans HG0.out (Below.mono hl.below HG0.out.size))
    have HBX:=zh (hb w3 hl.held)
    have HOW:=zh (HKEEP.out w3 (hl.held.mono hsub))
    clear hl HL' hb HFIN hsub HKEEP
    go_wp2_with fail
    refine (root_ok HBX.out HR.out).mono ?_
    rw[ho]
    rintro r w4 ⟨rfl,hg⟩
    have HG4:=zh hg
    clear hg
    have hXp:=kI hX
    have hroom:=HMR.out.room
    obtain⟨wide,off2,hwd,hld2,hld3,hoff,hinc,hnames⟩:=HMR.out.keys
    have hmany:=HMR.out.many
    rw[hul] at hmany
    have hwdp:=kI hwd
    have ho2:0≤off2:=by have h9:=(dR dx (p - 3*X) X).1;rw[hld3] at h9;exact h9
    have hpm:p≤1073741800:=by have h1:=HR.out.small;have h2:=HR.out.off0;omega
    have HDL:=zh (show dx.length≤1073741824 by have h1:=HR.out.len;have h2:=HR.out.small;omega)
    obtain⟨bb,oo,rfl,hbl,_⟩:=QD HBX.out (by intro e;have h1:=HR.out.len;rw[e] at h1;simp at h1)
    have HLD:Hid (∀pos W',jA w3 W'→JN pos→Calls prog 18 #[.slice (some ⟨bb,oo,none⟩) dx.length cx,.int .i64 pos,.int .i64 X] W' fun r w'=>r=.returned (.tuple #[.int .u64 (kC dx pos X).1,.int .i64 (kC dx pos X).2])∧jA W' w'):=fun pos W' hg hi=>
     VB _ dx (HBX.out.grew hg) HDL.out pos X (by first | exact hi | (unfold JN at hi;omega)) (fun ad n c e=>by cases e;exact Nat.lt_of_lt_of_le hbl hg.size)
    have hwo2:IntKind.i64.wrap off2=off2:=by rw[IntKind.wrap_i64];omega
    have hwwd:IntKind.i64.wrap wide=wide:=by rw[IntKind.wrap_i64];omega
    have hwu:IntKind.u64.wrap (L.length:Int)=L.length:=by first | (rw[IntKind.wrap_u64];omega) | (simp[IntKind.wrap,IntKind.bits,IntKind.signed];omega)
    have HNM:=zh (And.intro hwd (And.intro hinc (And.intro hnames hX)))
    have hnl:names.length=L.length:=by rw[HMR.out.same,hul]
    clear hbl hinc hnames hX hwd HG0
    go_wp2_with fail
    refine (HLD.out (p - X) w4 HG4.out (by unfold JN;omega)).mono ?_
    rw[hmany]
    dsimp only
    rintro r w5 ⟨rfl,hg⟩
    have HG5:=zh (HG4.out.trans hg)
    clear hg HG4 hmany
    go_wp2_with fail
    refine (HLD.out (p - 2*X) w5 HG5.out (by unfold JN;omega)).mono ?_
    rw[hld2]
    dsimp only
    rintro r w6 ⟨rfl,hg⟩
    have HG6:=zh (HG5.out.trans hg)
    clear hg HG5 hld2
    go_wp2_with fail
    refine (HLD.out (p - 3*X) w6 HG6.out (by unfold JN;omega)).mono ?_
    rw[hld3]
    dsimp only
    rintro r w7 ⟨rfl,hg⟩
    have HG7:=zh (HG6.out.trans hg)
    clear hg HG6 hld3
    go_wp2_with fail
    have HT:=zh (HOW.out.strs (fun q hq=>by have:=(HLK.out.2 q hq).2.1;unfold k9;omega))
    go_loopw [24,25] (fun lastv iv wr=>∃(i:Nat) (ls:ByteArray),i≤L.length∧iv=.int .i64 i∧lastv=.string ls∧Hid (∀j,i=j+1→names[j]? = some ls)∧Hid (jA w3 wr)) (fun _ iv _=>L.length - (intOf iv).toNat)
    case atStart=>exact⟨0,⟨#[]⟩,Nat.zero_le _,rfl,rfl,fun j e=>by omega,HG7.out⟩
    case round=>
     generalize wr=w8 at *
     obtain⟨i,ls,hi,rfl,rfl,HLS,HI⟩:=hrel
     clear HG7
     by_cases hil:i < L.length
     ·obtain⟨y,hy⟩:∃y,names[i]? = some y:=⟨_,List.getElem?_eq_getElem (by omega)⟩
      obtain⟨u,hu⟩:∃u,us[i]? = some u:=⟨_,List.getElem?_eq_getElem (by omega)⟩
      obtain⟨j,rfl,hjl,hnj⟩:=HUS.out i u hu
      rw[hy] at hnj
      have hyL:=HLK.out.2 y (List.mem_of_getElem? hnj.symm)
      have HKA:=zh (rH (HBX.out.grew HI.out) (tH HNM.out.2.2.1 HNM.out.1 hy) hyL.2.2 HDL.out HNM.out.1 (by omega) (by omega) (by omega))
      obtain⟨z,hz⟩:∃z,(i:Int)*X=z:=⟨_,rfl⟩
      have z0:0≤z:=by rw[← hz];exact Int.mul_nonneg (by omega) (by omega)
      have z1:z≤8000:=by
       have:=Int.mul_le_mul (show (i:Int)≤1000 by omega) hXp.2 (by omega) (by omega)
       omega
      have HVAL:=zh (HMR.out.vals i _ hu)
      rw[hz] at HVAL
      have hwz:IntKind.i64.wrap ((i:Int)*X)=z:=by rw[hz,IntKind.wrap_i64];omega
      obtain⟨_,_,ee,_,_,_,hcl⟩:=HT.out
      cases ee
      obtain⟨_,b2,off3,rfl,c2⟩:=hcl j y hnj.symm
      have d2:=HI.out.cell c2
      have hii:(i:Int) < L.length:=by omega
      have hji:(j:Int) < L.length:=by omega
      have hwj:IntKind.i64.wrap (j:Int)=(j:Int):=by rw[IntKind.wrap_i64];omega
      have hyy:(y.toList == y.toList)=true:=by rw[beq_iff_eq]
      have HLQ:Hid (0 < i→(Op.bytesLess y.toList ls.toList || y.toList == ls.toList)=false):=fun h0=>by
       obtain⟨i',rfl⟩:∃i',i=i'+1:=⟨i - 1,by omega⟩
       exact leq_no (inc_at HNM.out.2.1 (HLS.out i' rfl) hy)
      have HYN:=zh hy
      clear c2 hcl hy hu hnj hz hyL
      go_wp2_with fail
      refine HKA.out.mono ?_
      rintro r w9 ⟨rfl,hg⟩
      have HI2:=zh (HI.out.trans hg)
      have d3:=hg.cell d2
      clear hg d2 HKA
      go_wp2_with fail
      refine (HLD.out (p+z) w9 HI2.out (by unfold JN;omega)).mono ?_
      rw[HVAL.out]
      dsimp only
      rintro r w10 ⟨rfl,hg⟩
      have HI3:=zh (HI2.out.trans hg)
      have d2:=hg.cell d3
      clear hg d3 HI2 HVAL
      by_cases h0:i=0
      ·have hi0:¬(0:Int) < i:=by omega
       clear HLQ
       go_wp2_with fail
       go_roundw
       case rel=>exact⟨i+1,y,by omega,by go_num,rfl,fun j e=>by rw[show j=i by omega];exact HYN.out,HI3.out⟩
       case measure=>simp[intOf];omega
      ·have hi0:(0:Int) < i:=by omega
       have hlq:=HLQ.out (by omega)
       clear HLQ
       go_wp2_with fail
       go_roundw
       case rel=>exact⟨i+1,y,by omega,by go_num,rfl,fun j e=>by rw[show j=i by omega];exact HYN.out,HI3.out⟩
       case measure=>simp[intOf];omega
     ·have ei:i=L.length:=by omega
      subst ei
      go_wp2
      go_ret
      exact⟨rfl,Below.trans HBel.out (Below.mono HI.out HBel.out.size)⟩
theorem buildMaps_laid (os:Os) (args:Array Value):laidMet prog Rows.buildMapsRow.laid ((laidWorld os).forCall (fun _ _=>0) ⟨#[],args,[]⟩).memory:=by
 rw[show Rows.buildMapsRow.laid=[("unicode/utf8.acceptRanges",Lib.acceptData),("unicode/utf8.first",Lib.firstData)] by kernel_rfl]
 exact (LaidIn.of_run (l:=[("unicode/utf8.acceptRanges",Lib.acceptData),("unicode/utf8.first",Lib.firstData)]) [2,1] 8 zk zk zk zk).met
theorem buildMaps_door (os:Os) (args:Array Value):laidMetH prog Rows.buildMapsRow.laid ((laidWorld os).forCall (fun _ _=>0) ⟨#[],args,[]⟩).memory:=by
 rw[MakeChecks.laidMetH_plain _ _ _ zk]
 exact buildMaps_laid os args
theorem buildMaps_row {H:Type} (enc:TypeId × Value→H) (W:World) (base:Nat) (hL:laidMetH prog Rows.buildMapsRow.laid W) (hS:W.ShapedOpen prog) (v0:Value) (d0:DataW H) (p0:List MemPlace) (o0:Value.okWide prog W .any base 22 v0) (k0:DataW.Trod enc prog W 0 (fun _=>true) true 22 v0 d0 p0) (v1:Value) (d1:DataW H) (p1:List MemPlace) (o1:Value.okWide prog W .any base 3 v1) (k1:DataW.Trod enc prog W 0 (fun _=>true) true 3 v1 d1 p1) :
 Calls prog 4 #[v0,v1] W fun e w'=>e=.returned (.bool true)∧Below W.heap.size W w':=by
 obtain⟨l,hl⟩:=mF o0 k0
 obtain⟨fl,rfl,_,_,_⟩:=open_int underlying3 o1 k1
 obtain⟨mx,hmx⟩:∃m,W.cell? ⟨0,0,none⟩=some (.int .i64 m):=cell_of_shapedOpen_int (g:=0) (t:=3) (zero:=#[.int .i64 0]) hS (of_decide_eq_true zk) zk rfl zk zk zk
 exact buildMaps_any fl mx v0 l W hl hmx
theorem buildMaps_own:ownKnob Tryz.prog.godebug=none:=by kernel_rfl
theorem buildMaps_laidOut:laidOutB prog=true:=by kernel_rfl
theorem buildMaps_lifted (os:Os) (started:os.Started) (H:Type) (enc:TypeId × Value→H) :
 ReturnsInHanded {} checked os 4 .any (fun w args=>(Rows.buildMapsSpec.pre enc prog Tryz.f4 Rows.buildMapsRow.domain false w args∧laidMetH prog Rows.buildMapsRow.laid w)∧sizedMet enc prog Tryz.f4 (OpenSpec.ofChange Rows.buildMapsSpec) false w args) (Rows.buildMapsSpec.post enc prog Tryz.f4 false true false false):=by
 refine YT (C:=checked) (X:=fun w _=>laidMetH prog Rows.buildMapsRow.laid w) (fun _ _ _ hh h=>h.of_heap hh) buildMaps_own started zk func4
  (ChangeSpec.witness_shaped (enc:=enc) (C:=checked) (os:=os) (X:=fun w _=>laidMetH prog Rows.buildMapsRow.laid w) false (laidWorld os) #[.slice none 0 0,.int .i64 0] 8 rfl (World.shaped_of_RefB zk zk) zk zk zk (buildMaps_door os _)) ?_
 intro W base args ds gs before hval0 hW hL hS
 have hval:∀(j:Nat) t v,Tryz.f4.params[j]? = some t→args[j]? = some v→Value.okWide prog W .any base t v:=hval0
 have hW':=hW
 obtain⟨p,q,hA0,hV,rfl,hfz,hnd⟩:=hW
 have hA:DataW.TrodAll enc prog W 0 (fun _=>true) true Tryz.f4.params.toList args.toList ds p:=hA0
 rw[params4] at hA hval
 obtain⟨v0,vs0,d0,ds0,p0,q0,hargs,rfl,rfl,h0,r0⟩:=trodAll_cons hA
 obtain⟨v1,vs1,d1,ds1,p1,q1,rfl,rfl,rfl,h1,r1⟩:=trodAll_cons r0
 obtain⟨rfl,rfl,rfl⟩:=trodAll_nil r1
 obtain rfl:args=#[v0,v1]:=by cases args;simp_all
 obtain⟨rfl,rfl⟩:=trodVars_none hV
 have lt0:∀x∈p0,x.block < W.heap.size:=by obtain⟨m,hm⟩:=h0;exact DataW.trod_lt m _ _ _ hm
 have lt1:∀x∈p1,x.block < W.heap.size:=by obtain⟨m,hm⟩:=h1;exact DataW.trod_lt m _ _ _ hm
 have hw:=buildMaps_row enc W base hL hS v0 d0 p0 (hval 0 22 v0 rfl rfl) h0 v1 d1 p1 (hval 1 3 v1 rfl rfl) h1
 clear hA0 hval0
 refine hw.mono fun e W' ⟨he,bel⟩=>?_
 subst he
 exact⟨_,rfl,_,_,_,[],_,[],hW',trodAll_mk1 (shut_bool underlying4 _),(trodAll_cons_mk (Below.trod buildMaps_laidOut zk (of_decide_eq_true zk) h0 bel lt0) (trodAll_cons_mk (Below.trod buildMaps_laidOut zk (of_decide_eq_true zk) h1 bel lt1) trodAll_mk0)),rfl,Below.frame bel _,fun h=>by cases h⟩
/-- The statement. -/
theorem buildMaps_holds:Rows.BuildMapsSaid:=
 OpenClaim.holds_of_wide 4 Tryz.f4 rfl rfl rfl rfl rfl rfl rfl ⟨rfl,rfl,rfl,rfl,rfl⟩ rfl rfl rfl rfl rfl zk func4 zk
  (of_decide_eq_true zk) (by unfold Func.isWrapper;first | (rw[if_pos (by decide +kernel)];kernel_rfl) | (rw[if_neg (by decide +kernel)];exact⟨rfl,rfl⟩))
  (fun os started H enc _=>buildMaps_lifted os started H enc)
/-- The tied card. -/
theorem buildMapsCard_holds:Rows.BuildMapsCardSaid:=
 Claim7.holds_tied_plain_at .later [] [.data,.pinned] true (true,"d81d32618a3a4e4822f4d76c9ec7165dbf69d5538a2618c826381d2c86183b9d") false
  buildMaps_holds (fun _ h=>by cases h) zk (fun _ h=>by cases h) buildMaps_row_tie rfl ⟨rfl,rfl⟩ zk rfl
  (fun f fn hf hfn=>by
   obtain rfl:f=4:=Option.some.inj ((show Tryz.prog.funcNamed "accordion/accordionlaw19.BuildMaps" = some 4 by kernel_rfl).symm.trans hf) |>.symm
   obtain rfl:fn=Tryz.f4:=(Option.some.inj (Tryz.func4.symm.trans hfn)).symm
   exact⟨by kernel_rfl,fun j t ht=>by
    rw[params4] at ht
    have hm:t∈[22,3]:=by simpa using Array.mem_of_getElem? ht
    have q8:([22,3].all fun u=>!Tryz.prog.wantsStandIn u)=true:=by kernel_rfl
    exact (show Tryz.prog.wantsStandIn t=false by simpa using List.all_eq_true.1 q8 t hm)⟩)
  zk
end Go.Proofs.YtjnpcddbgfmpcaaGreatDoor
