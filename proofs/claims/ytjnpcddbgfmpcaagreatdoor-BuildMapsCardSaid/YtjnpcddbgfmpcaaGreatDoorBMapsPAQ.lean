/-
  Texts of the proof.
-/
import Derived.Test.YtjnpcddbgfmpcaaGreatDoorBMapsPAP
import Derived.Deep.OwnRows
set_option linter.unusedVariables false
set_option linter.unusedSimpArgs false
set_option maxHeartbeats 8000000
set_option maxRecDepth 100000
namespace Go.Proofs.YtjnpcddbgfmpcaaGreatDoor
open Go.Proofs.Tryz
open Go Go.ChangeShapes Go.WideShapes Go.ChangeAt Go.RowKit Go.Joins Go.Deep
theorem Tryz.infoIntK:(Tryz.prog.info? 3).map (fun i=>(i.zero,i.size,i.bytes))=some (some (.int .i64 0),1,8):=by kernel_rfl
def upF (k j:Nat):Value:=if j < k then .int .i64 (j:Int) else .int .i64 0
def gU (w:World) (v:Value) (l:List ByteArray):Prop:=
 ∃(blk cap:Nat) (p:List (Fin l.length)),v=.slice (some ⟨blk,0,none⟩) l.length cap∧p.Perm (List.finRange l.length)∧(∀(i j:Nat) x y,i < j→p[i]? = some x→p[j]? = some y→ltS l[x] l[y]=true)∧(∀(i:Nat) (x:Fin l.length),p[i]? = some x→w.cell? ⟨blk,i,none⟩=some (.int .i64 ((x.1:Nat):Int)))∧cap=l.length
def rS (w:World) (l:List ByteArray) (r:Ending) (w':World):Prop:=
 jA w w'∧((¬l.Nodup∧r=.returned (.tuple #[.slice none 0 0,.int .i64 71]))∨(l.Nodup∧∃v,r=.returned (.tuple #[v,.int .i64 0])∧gU w' v l))
def dP (w:World) (l:List ByteArray) (r:Ending) (w':World):Prop:=
 jA w w'∧((¬l.Nodup∧r=.returned (.tuple #[.slice none 0 0,.int .i64 71]))∨(l.Nodup∧∃v,r=.returned (.tuple #[v,.int .i64 0])∧gU w' v l∧∀a n c,v=.slice (some a) n c→w.heap.size≤a.block∧a.block < w'.heap.size))
theorem bA {l:List ByteArray} {p:List (Fin l.length)} (h:p.Perm (List.finRange l.length)):p.length=l.length:=by rw[h.length_eq];simp
theorem oS {l:List ByteArray} {p:List (Fin l.length)} (hp:p.Perm (List.finRange l.length)) {i:Nat} {x y:Fin l.length} (hx:p[i]? = some x) (hy:p[i+1]? = some y) (e:l[x]=l[y]):¬l.Nodup:=by
 intro hn
 have hpn:p.Nodup:=hp.nodup_iff.2 (List.nodup_finRange _)
 have hxy:x=y:=by
  apply Fin.ext
  exact (List.getElem_inj hn).1 e
 have h1:=(List.getElem?_eq_some_iff.1 hx)
 have h2:=(List.getElem?_eq_some_iff.1 hy)
 obtain⟨h1l,h1e⟩:=h1
 obtain⟨h2l,h2e⟩:=h2
 have:=(List.getElem_inj hpn (h₀:=h1l) (h₁:=h2l)).1 (by rw[h1e,h2e,hxy])
 omega
theorem mA {l:List ByteArray} {p:List (Fin l.length)} (hs:∀(i j:Nat) x y,i < j→p[i]? = some x→p[j]? = some y→ltS l[y] l[x]=false) (ha:∀(i:Nat) x y,p[i]? = some x→p[i+1]? = some y→¬l[x]=l[y]) :
 ∀(i j:Nat) x y,i < j→p[i]? = some x→p[j]? = some y→ltS l[x] l[y]=true:=by
 intro i j x y hij hx hy
 have step:∀(i:Nat) x y,p[i]? = some x→p[i+1]? = some y→ltS l[x] l[y]=true:=by
  intro i x y hx hy
  cases h:ltS l[x] l[y] with
  | true=>rfl
  | false=>exact absurd (VD h (hs i (i+1) x y (by omega) hx hy)) (ha i x y hx hy)
 induction j generalizing y with
 | zero=>omega
 | succ j ih=>
  by_cases e:i=j
  ·subst e;exact step i x y hx hy
  ·have hj:j < p.length:=by have:=(List.getElem?_eq_some_iff.1 hy).1;omega
   exact JG (ih p[j] (by omega) (List.getElem?_eq_getElem hj) step) (step j p[j] y (List.getElem?_eq_getElem hj) hy)
theorem QK {l:List ByteArray} {p:List (Fin l.length)} (hp:p.Perm (List.finRange l.length)) (hs:∀(i j:Nat) x y,i < j→p[i]? = some x→p[j]? = some y→ltS l[x] l[y]=true):l.Nodup:=by
 refine List.pairwise_iff_getElem.2 fun i j hi hj hij he=>?_
 have mi:(⟨i,hi⟩:Fin l.length)∈p:=hp.mem_iff.2 (List.mem_finRange _)
 have mj:(⟨j,hj⟩:Fin l.length)∈p:=hp.mem_iff.2 (List.mem_finRange _)
 obtain⟨a,ha,hae⟩:=List.mem_iff_getElem.1 mi
 obtain⟨b,hb,hbe⟩:=List.mem_iff_getElem.1 mj
 have hab:a≠b:=fun h=>by subst h;rw[hae] at hbe;injection hbe with h;omega
 rcases Nat.lt_or_gt_of_ne hab with h|h
 ·have:=hs a b _ _ h (by rw[List.getElem?_eq_getElem ha,hae]) (by rw[List.getElem?_eq_getElem hb,hbe])
  have e2:ltS l[i] l[j]=true:=this
  rw[he,vC] at e2;cases e2
 ·have:=hs b a _ _ h (by rw[List.getElem?_eq_getElem hb,hbe]) (by rw[List.getElem?_eq_getElem ha,hae])
  have e2:ltS l[j] l[i]=true:=this
  rw[he,vC] at e2;cases e2
theorem oT (l:List ByteArray) (hl:l.length≤65536) (lv:Value) (w:World) (hs:kO w lv l) :
 Calls prog 34 #[lv] w fun r w'=>dP w l r w':=by
 have HS:=zh hs
 obtain⟨a,c,rfl,hz1,hz2,hz3,hz4⟩:=hs
 clear hz1 hz2 hz3 hz4
 have hmk:=run_make_row' (P:=prog) 69 3 (.int .i64 0) 8 underlying69 Tryz.infoIntK rfl .i64 .i64 l.length (by omega) (by omega)
 go_enter func34,ntmps34
 go_wp2_with fail
 have hbx:=heap_alloc_new w (.cells #[.slice a l.length c] 22)
 have hg1:=(jA.refl w).alloc (.cells #[.slice a l.length c] 22)
 have hs1:(w.alloc (.cells #[.slice a l.length c] 22)).heap.size=w.heap.size+1:=World.size_alloc _ _
 generalize (w.alloc (.cells #[.slice a l.length c] 22))=w1 at *
 have jJ:=World.rowIs_made w1 (.int .i64 0) l.length 3
 have hg2:=(jA.refl w1).alloc (.cells (madeCells #[.int .i64 0] l.length) 3)
 rw[hs1] at jJ
 generalize (w1.alloc (.cells (madeCells #[.int .i64 0] l.length) 3))=w2 at *
 obtain⟨N,hN⟩:∃N,w.heap.size=N:=⟨_,rfl⟩
 rw[hN] at hbx jJ⊢
 have HBX:=zh (hg2.heap hbx)
 have HG:=zh (hg1.trans hg2)
 have HN:=zh hN
 have HROW:=zh jJ
 clear hmk hbx hg1 hg2 hs1 jJ hN
 go_loopw [12] (fun i wr=>∃k:Nat,k≤l.length∧i=.int .i64 k∧Hid (wr.rowIs (N+1) 3 l.length (upF k)∧Moved (fun g=>g=N+1) w2 wr)) (fun i _=>l.length - (intOf i).toNat)
 case atStart=>exact⟨0,Nat.zero_le _,rfl,by show _∧_;exact⟨HROW.out.congr (fun i _=>by simp[upF]),Moved.refl _ _⟩⟩
 case round=>
  obtain⟨k,hk,rfl,HW⟩:=hrel
  by_cases hlt:k < l.length
  ·have hc:=HW.out.1.cell hlt
   have hf:=HW.out.1.frozen k
   obtain⟨u,hu⟩:∃u,upF k k=.int .i64 u:=⟨0,by simp[upF]⟩
   rw[hu] at hc
   have hlti:(k:Int) < l.length:=by omega
   go_wp2_with fail
   go_roundw
   case rel=>exact⟨k+1,by omega,by go_num,by
    show _∧_
    refine⟨(HW.out.1.set k _).congr (fun i hi=>?_),HW.out.2.setCell (p:=⟨N+1,k,none⟩) (fun _=>rfl) _⟩
    by_cases e:i=k
    ·subst e;simp[upF]
    ·simp only[upF,if_neg e]
     by_cases h:i < k
     ·rw[if_pos h,if_pos (by omega)]
     ·rw[if_neg h,if_neg (by omega)]⟩
   case measure=>simp[intOf];omega
  ·obtain rfl:k=l.length:=by omega
   have hm2:=HW.out.2
   have hgw:jA w wr:=Moved.fresh HG.out hm2 (fun g h=>by have:=HN.out;omega)
   have HGW:=zh hgw
   have hbx:wr.heap[N]? = some (.cells #[.slice a l.length c] 22 (0,0)):=hm2.heap HBX.out (by omega)
   have HBW:=zh hbx
   have hsw:Hid (kO wr (.slice a l.length c) l):=HS.out.grew hgw
   have hblk:Hid (N+1 < wr.heap.size):=HW.out.1.lt
   have hlvb:Hid (∀ad n c',Value.slice a l.length c=.slice (some ad) n c'→0 < l.length→ad.block≠N+1):=fun ad n c' e h0=>by
    injection e with e1 e2 e3
    obtain⟨a',c'',e',_,_,_,h⟩:=HS.out
    injection e' with e1' _ _
    obtain⟨_,b,off,e4,hc⟩:=h 0 l[0] (List.getElem?_eq_getElem h0)
    have hb:=World.block_lt_of_cell? w _ hc
    have hN':=HN.out
    rw[← e1',e1] at e4
    injection e4 with e4
    subst e4
    simp only at hb⊢
    omega
   have HROW2:Hid (∀j,j < l.length→wr.cell? ⟨N+1,j,none⟩=some (.int .i64 (j:Int))∧wr.frozen? ⟨N+1,j,none⟩=false):=fun j hj=>⟨by rw[HW.out.1.cell hj];simp[upF,hj],HW.out.1.frozen j⟩
   clear hm2 hgw hbx HW
   by_cases h0:0 < l.length
   ·have HCALL:Hid (Calls prog 75 #[.slice (some ⟨N+1,0,none⟩) l.length l.length,.func (.func 76) #[] #[.pointer (some ⟨N,0,none⟩)]] wr _):=fI l h0 (by omega) _ N (N+1) wr hsw.out (jI HBW.out 0 _ rfl) (by omega) (fun ad n c' e=>hlvb.out ad n c' e h0) HROW2.out hblk.out l.length
    go_wp2_with fail
    refine HCALL.out.mono ?_
    rintro r w4 ⟨rfl,p,hp,hsd,hcl,hm4⟩
    have HP:=zh hp
    have HSD:=zh hsd
    have HCL:=zh hcl
    have HG4:Hid (jA w w4):=Moved.fresh HGW.out hm4 (fun g h=>by have:=HN.out;omega)
    have HB4:=zh (hm4.heap HBW.out (by omega))
    have HPL:Hid (p.length=l.length):=bA hp
    have HS4:Hid (N+1 < w4.heap.size):=Nat.lt_of_lt_of_le hblk.out hm4.size
    clear hp hsd hcl hm4 HCALL hlvb HROW2 hsw
    go_wp2_with fail
    go_loopw [6] (fun i wr'=>∃q:Nat,q < l.length∧i=.int .i64 ((q:Int)+1)∧Hid ((∀(i:Nat) x y,i+1 < q+1→p[i]? = some x→p[i+1]? = some y→¬l[x]=l[y])∧jA w4 wr')) (fun i _=>l.length - (intOf i).toNat)
    case atStart=>exact⟨0,h0,rfl,by show _∧_;exact⟨fun i x y h=>by omega,jA.refl _⟩⟩
    case round=>
     obtain⟨q,hq,rfl,HW⟩:=hrel
     by_cases hlt:q+1 < l.length
     ·obtain⟨x,hx⟩:∃x,p[q]? = some x:=⟨_,List.getElem?_eq_getElem (by have:=HPL.out;omega)⟩
      obtain⟨y,hy⟩:∃y,p[q+1]? = some y:=⟨_,List.getElem?_eq_getElem (by have:=HPL.out;omega)⟩
      have c1:=HW.out.2.cell (HCL.out q x hx)
      have c2:=HW.out.2.cell (HCL.out (q+1) y hy)
      have bc:=jI (HW.out.2.heap HB4.out) 0 _ rfl
      obtain⟨xi,hxl⟩:=x
      obtain⟨yi,hyl⟩:=y
      obtain⟨b,off,rfl,s1⟩:∃b off,a=some ⟨b,off,none⟩∧wr.cell? ⟨b,off+xi,none⟩=some (.string l[xi]):=by
       obtain⟨a',c',e',_,_,_,h⟩:=HS.out
       injection e' with e1 _ _
       obtain⟨_,b,off,e4,hc⟩:=h xi l[xi] (List.getElem?_eq_getElem hxl)
       exact⟨b,off,by rw[e1,e4],(HG4.out.trans HW.out.2).cell hc⟩
      have s2:wr.cell? ⟨b,off+yi,none⟩=some (.string l[yi]):=by
       obtain⟨a',c',e',_,_,_,h⟩:=HS.out
       injection e' with e1 _ _
       obtain⟨_,b',off',e4,hc⟩:=h yi l[yi] (List.getElem?_eq_getElem hyl)
       rw[← e1] at e4
       injection e4 with e4
       cases e4
       exact (HG4.out.trans HW.out.2).cell hc
      have HXY:=zh (And.intro hx hy)
      obtain⟨sx,hsx⟩:∃s,l[xi]=s:=⟨_,rfl⟩
      obtain⟨sy,hsy⟩:∃s,l[yi]=s:=⟨_,rfl⟩
      rw[hsx] at s1
      rw[hsy] at s2
      have HSX:=zh (And.intro hsx hsy)
      have hxi:(xi:Int) < l.length:=by omega
      have hyi:(yi:Int) < l.length:=by omega
      have hqi:(q:Int)+1 < l.length:=by omega
      have hqi2:(q:Int) < l.length:=by omega
      have hw1:IntKind.i64.wrap ((q:Int)+1 - 1)=q:=by rw[IntKind.wrap_i64];omega
      clear hx hy hsx hsy
      by_cases hxy:sx=sy
      ·have hne:Hid (¬l.Nodup):=oS HP.out HXY.out.1 HXY.out.2 (by show l[xi]=l[yi];rw[HSX.out.1,HSX.out.2,hxy])
       have hbe:(sx.toList == sy.toList)=true:=by rw[YY];exact decide_eq_true hxy
       clear hxy
       go_wp2_with fail
       go_quiet (fail)
       go_wp2_with fail
       go_ret2
       exact⟨(HG4.out.trans HW.out.2).drewN _,.inl ⟨hne.out,rfl⟩⟩
      ·have hbe:(sx.toList == sy.toList)=false:=by rw[YY];exact decide_eq_false hxy
       have HNE:=zh hxy
       clear hxy
       go_wp2_with fail
       go_quiet (fail)
       go_wp2_with fail
       go_roundw
       case rel=>exact⟨q+1,by omega,by go_num,by
        show _∧_
        refine⟨fun i x y hi hx hy=>?_,HW.out.2.drewN _⟩
        by_cases e:i=q
        ·subst e
         rw[HXY.out.1] at hx
         rw[HXY.out.2] at hy
         injection hx with hx
         injection hy with hy
         subst hx hy
         show ¬l[xi]=l[yi]
         rw[HSX.out.1,HSX.out.2]
         exact HNE.out
        ·exact HW.out.1 i x y (by omega) hx hy⟩
       case measure=>simp[intOf];omega
     ·have hge:¬(q:Int)+1 < l.length:=by omega
      have hst:Hid (∀(i j:Nat) x y,i < j→p[i]? = some x→p[j]? = some y→ltS l[x] l[y]=true):=mA HSD.out (fun i x y hx hy=>HW.out.1 i x y (by have:=(List.getElem?_eq_some_iff.1 hy).1;have:=HPL.out;omega) hx hy)
      go_wp2_with fail
      go_ret2
      exact⟨HG4.out.trans HW.out.2,.inr ⟨QK HP.out hst.out,_,rfl,⟨N+1,l.length,p,rfl,HP.out,hst.out,fun i x hx=>HW.out.2.cell (HCL.out i x hx),rfl⟩,fun a n c e=>by cases e;exact⟨by have:=HN.out;show _≤N+1;omega,Nat.lt_of_lt_of_le HS4.out HW.out.2.size⟩⟩⟩
   ·obtain rfl:l=[]:=List.length_eq_zero_iff.1 (by omega)
    go_wp2_with fail
    refine (Tryz.slices_SortFunc_none (α:=Nat) _ _ _ _).mono ?_
    rintro r w4 ⟨rfl,rfl⟩
    go_wp2_with fail
    go_loopw [6] (fun i wr'=>i=.int .i64 1∧Hid (jA w wr'∧N+1 < wr'.heap.size)) (fun _ _=>0)
    case atStart=>exact⟨rfl,by show _∧_;exact⟨HGW.out,hblk.out⟩⟩
    case round=>
    obtain⟨rfl,HW⟩:=hrel
    go_wp2_with fail
    go_ret2
    exact⟨HW.out.1,.inr ⟨by simp,_,rfl,⟨N+1,0,[],rfl,by simp,by simp,by simp,rfl⟩,fun a n c e=>by cases e;exact⟨by have:=HN.out;show _≤N+1;omega,HW.out.2⟩⟩⟩
def yI (s:ByteArray):Int:=if 0≤Lib.indexByte s.data.toList 0 then 70 else 0
theorem mB (s:ByteArray) (w:World):Calls prog 70 #[.string s] w fun r w'=>r=.returned (.int .i64 (yI s))∧w=w':=by
 have hc:=Tryz.strings_IndexByte s 0 w
 rw[show ((0:Int).toNat.toUInt8)=0 from rfl] at hc
 have HE:Hid (yI s=if 0≤Lib.indexByte s.data.toList 0 then 70 else 0):=rfl
 generalize Lib.indexByte s.data.toList 0=q at *
 have HC:=zh hc
 clear hc
 by_cases hq:0≤q
 ·have H2:Hid (yI s=70):=by show _=_;rw[HE.out,if_pos hq]
  go_enter func70,ntmps70
  go_wp2_with fail
  refine HC.out.mono ?_
  rintro r w' ⟨rfl,rfl⟩
  go_wp2_with fail
  go_ret
  exact⟨by rw[H2.out];rfl,rfl⟩
 ·have H2:Hid (yI s=0):=by show _=_;rw[HE.out,if_neg hq]
  go_enter func70,ntmps70
  go_wp2_with fail
  refine HC.out.mono ?_
  rintro r w' ⟨rfl,rfl⟩
  go_wp2_with fail
  go_ret
  exact⟨by rw[H2.out];rfl,rfl⟩
theorem QL:∀a b:List UInt8,Op.bytesLess a b=decide (qV a b < 0)
 | [],[]=>by simp[Op.bytesLess,qV,Lib.compareBytes]
 | [],_::_=>by simp[Op.bytesLess,qV,Lib.compareBytes]
 | _::_,[]=>by simp[Op.bytesLess,qV,Lib.compareBytes]
 | x::a,y::b=>by
  have ih:=QL a b
  have hc:qV (x::a) (y::b)=if x < y then (-1:Int) else if y < x then 1 else qV a b:=rfl
  rw[hc]
  unfold Op.bytesLess
  by_cases h1:x < y
  ·simp[h1]
  ·by_cases h2:y < x
   ·have h3:¬x=y:=fun e=>by subst e;exact UInt8.lt_irrefl _ h2
    simp[h1,h2,h3]
   ·have h3:x=y:=by
     apply UInt8.toNat_inj.1
     have q1:¬x.toNat < y.toNat:=fun h=>h1 (UInt8.lt_iff_toNat_lt.2 h)
     have q2:¬y.toNat < x.toNat:=fun h=>h2 (UInt8.lt_iff_toNat_lt.2 h)
     omega
    simp[h1,h2,h3,ih]
theorem nZ (a b:ByteArray):Op.bytesLess a.toList b.toList=ltS a b:=by
 rw[ByteArray.toList_eq,ByteArray.toList_eq,QL];rfl
theorem dQ (a b:ByteArray) (w:World):Calls prog 155 #[.string a,.string b] w fun r w'=>r=.returned (.bool (ltS a b))∧w=w':=by
 go_enter func155,ntmps155
 go_wp2_with fail
 go_ret
 refine⟨?_,rfl⟩
 show Ending.returned (.bool (Op.bytesLess a.toList b.toList))=_
 rw[nZ]
def y7 (l:List ByteArray) (k:ByteArray) (lo hi:Nat):Nat:=
 if lo < hi then
  if ltS (l.getD (lo+(hi - lo) / 2) ByteArray.empty) k then y7 l k (lo+(hi - lo) / 2+1) hi else y7 l k lo (lo+(hi - lo) / 2)
 else lo
termination_by hi - lo
decreasing_by all_goals omega
def qW (l:List ByteArray) (k:ByteArray):Int × Bool:=if l[y7 l k 0 l.length]? = some k then ((y7 l k 0 l.length:Nat),true) else (0,false)
theorem keyE_eq (s:ByteArray):yI s=if nY s=true then 70 else 0:=by
 have h:=Lib.contains_iff_indexByte s.data.toList 0
 unfold yI nY
 by_cases hm:(0:UInt8)∈s.data.toList
 ·have h1:s.data.toList.contains 0=true:=List.contains_iff_mem.2 hm
  rw[h1] at h
  rw[if_pos (of_decide_eq_true h.symm),if_pos (decide_eq_true hm)]
 ·have h1:s.data.toList.contains 0=false:=by rw[Bool.eq_false_iff];exact fun e=>hm (List.contains_iff_mem.1 e)
  rw[h1] at h
  rw[if_neg (of_decide_eq_false h.symm),if_neg (by simp[hm])]
def v6 (w:World) (v:Value) (l:List Int):Prop:=
 ∃a c,v=.slice a l.length c∧l.length≤c∧k9 c∧(a=none→c=0)∧∀(i:Nat) (x:Int),l[i]? = some x→True∧∃b off,a=some ⟨b,off,none⟩∧w.cell? ⟨b,off+i,none⟩=some (.int .i64 x)
end Go.Proofs.YtjnpcddbgfmpcaaGreatDoor
