/-
  Texts of the proof.
-/
import Derived.Test.YtfbeepkogcmlmaaNormalKnownPAI
import Derived.Deep.OwnRows
set_option linter.unusedVariables false
set_option linter.unusedSimpArgs false
set_option maxHeartbeats 8000000
set_option maxRecDepth 100000
namespace Go.Proofs.Ytfbeepkogcmlmaa
open Go Go.ChangeShapes Go.WideShapes Go.ChangeAt Go.RowKit Go.Joins Go.Deep
theorem Try.infoIntK:(Try.prog.info? 3).map (fun i=>(i.zero,i.size,i.bytes))=some (some (.int .i64 0),1,8):=by kernel_rfl
def upF (k j:Nat):Value:=if j < k then .int .i64 (j:Int) else .int .i64 0
def QC (w:World) (v:Value) (l:List ByteArray):Prop:=
 ∃(blk cap:Nat) (p:List (Fin l.length)),v=.slice (some ⟨blk,0,none⟩) l.length cap∧p.Perm (List.finRange l.length)∧(∀(i j:Nat) x y,i < j→p[i]? = some x→p[j]? = some y→ltS l[x] l[y]=true)∧(∀(i:Nat) (x:Fin l.length),p[i]? = some x→w.cell? ⟨blk,i,none⟩=some (.int .i64 ((x.1:Nat):Int)))∧cap=l.length
def a7 (w:World) (l:List ByteArray) (r:Ending) (w':World):Prop:=
 jC w w'∧((¬l.Nodup∧r=.returned (.tuple #[.slice none 0 0,.int .i64 71]))∨(l.Nodup∧∃v,r=.returned (.tuple #[v,.int .i64 0])∧QC w' v l))
def V9 (w:World) (l:List ByteArray) (r:Ending) (w':World):Prop:=
 jC w w'∧((¬l.Nodup∧r=.returned (.tuple #[.slice none 0 0,.int .i64 71]))∨(l.Nodup∧∃v,r=.returned (.tuple #[v,.int .i64 0])∧QC w' v l∧∀a n c,v=.slice (some a) n c→w.heap.size≤a.block∧a.block < w'.heap.size))
theorem JI {l:List ByteArray} {p:List (Fin l.length)} (h:p.Perm (List.finRange l.length)):p.length=l.length:=by rw[h.length_eq];simp
theorem aA {l:List ByteArray} {p:List (Fin l.length)} (hp:p.Perm (List.finRange l.length)) {i:Nat} {x y:Fin l.length} (hx:p[i]? = some x) (hy:p[i+1]? = some y) (e:l[x]=l[y]):¬l.Nodup:=by
 intro hn
 have hpn:p.Nodup:=hp.nodup_iff.2 (List.nodup_finRange _)
 have hxy:x=y:=by
  apply Fin.ext
  exact (List.getElem_inj hn).1 e
 have h1:=(List.getElem?_eq_some_iff.1 hx)
 have h2:=(List.getElem?_eq_some_iff.1 hy)
 obtain⟨h1l,h1e⟩:=h1
 obtain⟨h2l,h2e⟩:=h2
 have:=(List.getElem_inj hpn (h₀:=h1l) (h₁:=h2l)).1 (by rw[h1e,h2e,hxy])
 omega
theorem Q6 {l:List ByteArray} {p:List (Fin l.length)} (hs:∀(i j:Nat) x y,i < j→p[i]? = some x→p[j]? = some y→ltS l[y] l[x]=false) (ha:∀(i:Nat) x y,p[i]? = some x→p[i+1]? = some y→¬l[x]=l[y]) :
 ∀(i j:Nat) x y,i < j→p[i]? = some x→p[j]? = some y→ltS l[x] l[y]=true:=by
 intro i j x y hij hx hy
 have step:∀(i:Nat) x y,p[i]? = some x→p[i+1]? = some y→ltS l[x] l[y]=true:=by
  intro i x y hx hy
  cases h:ltS l[x] l[y] with
  | true=>rfl
  | false=>exact absurd (vJ h (hs i (i+1) x y (by omega) hx hy)) (ha i x y hx hy)
 induction j generalizing y with
 | zero=>omega
 | succ j ih=>
  by_cases e:i=j
  ·subst e;exact step i x y hx hy
  ·have hj:j < p.length:=by have:=(List.getElem?_eq_some_iff.1 hy).1;omega
   exact yX (ih p[j] (by omega) (List.getElem?_eq_getElem hj) step) (step j p[j] y (List.getElem?_eq_getElem hj) hy)
theorem JJ {l:List ByteArray} {p:List (Fin l.length)} (hp:p.Perm (List.finRange l.length)) (hs:∀(i j:Nat) x y,i < j→p[i]? = some x→p[j]? = some y→ltS l[x] l[y]=true):l.Nodup:=by
 refine List.pairwise_iff_getElem.2 fun i j hi hj hij he=>?_
 have mi:(⟨i,hi⟩:Fin l.length)∈p:=hp.mem_iff.2 (List.mem_finRange _)
 have mj:(⟨j,hj⟩:Fin l.length)∈p:=hp.mem_iff.2 (List.mem_finRange _)
 obtain⟨a,ha,hae⟩:=List.mem_iff_getElem.1 mi
 obtain⟨b,hb,hbe⟩:=List.mem_iff_getElem.1 mj
 have hab:a≠b:=fun h=>by subst h;rw[hae] at hbe;injection hbe with h;omega
 rcases Nat.lt_or_gt_of_ne hab with h|h
 ·have:=hs a b _ _ h (by rw[List.getElem?_eq_getElem ha,hae]) (by rw[List.getElem?_eq_getElem hb,hbe])
  have e2:ltS l[i] l[j]=true:=this
  rw[he,qE] at e2;cases e2
 ·have:=hs b a _ _ h (by rw[List.getElem?_eq_getElem hb,hbe]) (by rw[List.getElem?_eq_getElem ha,hae])
  have e2:ltS l[j] l[i]=true:=this
  rw[he,qE] at e2;cases e2
theorem aB (l:List ByteArray) (hl:l.length≤65536) (lv:Value) (w:World) (hs:kO w lv l) :
 Calls Try.prog 61 #[lv] w fun r w'=>V9 w l r w':=by
 have HS:=zh hs
 obtain⟨a,c,rfl,hz1,hz2,hz3,hz4⟩:=hs
 clear hz1 hz2 hz3 hz4
 have hmk:=run_make_row' (P:=Try.prog) 69 3 (.int .i64 0) 8 Try.underlying69 Try.infoIntK rfl .i64 .i64 l.length (by omega) (by omega)
 go_enter Try.func61,Try.ntmps61
 go_wp2_with fail
 have hbx:=heap_alloc_new w (.cells #[.slice a l.length c] 23)
 have hg1:=(jC.refl w).alloc (.cells #[.slice a l.length c] 23)
 have hs1:(w.alloc (.cells #[.slice a l.length c] 23)).heap.size=w.heap.size+1:=World.size_alloc _ _
 generalize (w.alloc (.cells #[.slice a l.length c] 23))=w1 at *
 have jP:=World.rowIs_made w1 (.int .i64 0) l.length 3
 have hg2:=(jC.refl w1).alloc (.cells (madeCells #[.int .i64 0] l.length) 3)
 rw[hs1] at jP
 generalize (w1.alloc (.cells (madeCells #[.int .i64 0] l.length) 3))=w2 at *
 obtain⟨N,hN⟩:∃N,w.heap.size=N:=⟨_,rfl⟩
 rw[hN] at hbx jP⊢
 have HBX:=zh (hg2.heap hbx)
 have HG:=zh (hg1.trans hg2)
 have HN:=zh hN
 have kJ:=zh jP
 clear hmk hbx hg1 hg2 hs1 jP hN
 go_loopw [12] (fun i wr=>∃k:Nat,k≤l.length∧i=.int .i64 k∧Hid (wr.rowIs (N+1) 3 l.length (upF k)∧Moved (fun g=>g=N+1) w2 wr)) (fun i _=>l.length - (intOf i).toNat)
 case atStart=>exact⟨0,Nat.zero_le _,rfl,by show _∧_;exact⟨kJ.out.congr (fun i _=>by simp[upF]),Moved.refl _ _⟩⟩
 case round=>
  obtain⟨k,hk,rfl,HW⟩:=hrel
  by_cases hlt:k < l.length
  ·have hc:=HW.out.1.cell hlt
   have hf:=HW.out.1.frozen k
   obtain⟨u,hu⟩:∃u,upF k k=.int .i64 u:=⟨0,by simp[upF]⟩
   rw[hu] at hc
   have yD:(k:Int) < l.length:=by omega
   go_wp2_with fail
   go_roundw
   case rel=>exact⟨k+1,by omega,by go_num,by
    show _∧_
    refine⟨(HW.out.1.set k _).congr (fun i hi=>?_),HW.out.2.setCell (p:=⟨N+1,k,none⟩) (fun _=>rfl) _⟩
    by_cases e:i=k
    ·subst e;simp[upF]
    ·simp only[upF,if_neg e]
     by_cases h:i < k
     ·rw[if_pos h,if_pos (by omega)]
     ·rw[if_neg h,if_neg (by omega)]⟩
   case measure=>simp[intOf];omega
  ·obtain rfl:k=l.length:=by omega
   have hm2:=HW.out.2
   have hgw:jC w wr:=Moved.fresh HG.out hm2 (fun g h=>by have:=HN.out;omega)
   have HGW:=zh hgw
   have hbx:wr.heap[N]? = some (.cells #[.slice a l.length c] 23 (0,0)):=hm2.heap HBX.out (by omega)
   have HBW:=zh hbx
   have hsw:Hid (kO wr (.slice a l.length c) l):=HS.out.grew hgw
   have hblk:Hid (N+1 < wr.heap.size):=HW.out.1.lt
   have hlvb:Hid (∀ad n c',Value.slice a l.length c=.slice (some ad) n c'→0 < l.length→ad.block≠N+1):=fun ad n c' e h0=>by
    injection e with e1 e2 e3
    obtain⟨a',c'',e',_,_,_,h⟩:=HS.out
    injection e' with e1' _ _
    obtain⟨_,b,off,e4,hc⟩:=h 0 l[0] (List.getElem?_eq_getElem h0)
    have hb:=World.block_lt_of_cell? w _ hc
    have hN':=HN.out
    rw[← e1',e1] at e4
    injection e4 with e4
    subst e4
    simp only at hb⊢
    omega
   have HROW2:Hid (∀j,j < l.length→wr.cell? ⟨N+1,j,none⟩=some (.int .i64 (j:Int))∧wr.frozen? ⟨N+1,j,none⟩=false):=fun j hj=>⟨by rw[HW.out.1.cell hj];simp[upF,hj],HW.out.1.frozen j⟩
   clear hm2 hgw hbx HW
   by_cases h0:0 < l.length
   ·have kA:Hid (Calls Try.prog 69 #[.slice (some ⟨N+1,0,none⟩) l.length l.length,.func (.func 70) #[] #[.pointer (some ⟨N,0,none⟩)]] wr _):=YP l h0 (by omega) _ N (N+1) wr hsw.out (jA HBW.out 0 _ rfl) (by omega) (fun ad n c' e=>hlvb.out ad n c' e h0) HROW2.out hblk.out l.length
    go_wp2_with fail
    refine kA.out.mono ?_
    rintro r w4 ⟨rfl,p,hp,hsd,hcl,hm4⟩
    have HP:=zh hp
    have HSD:=zh hsd
    have HCL:=zh hcl
    have HG4:Hid (jC w w4):=Moved.fresh HGW.out hm4 (fun g h=>by have:=HN.out;omega)
    have HB4:=zh (hm4.heap HBW.out (by omega))
    have HPL:Hid (p.length=l.length):=JI hp
    have HS4:Hid (N+1 < w4.heap.size):=Nat.lt_of_lt_of_le hblk.out hm4.size
    clear hp hsd hcl hm4 kA hlvb HROW2 hsw
    go_wp2_with fail
    go_loopw [6] (fun i wr'=>∃q:Nat,q < l.length∧i=.int .i64 ((q:Int)+1)∧Hid ((∀(i:Nat) x y,i+1 < q+1→p[i]? = some x→p[i+1]? = some y→¬l[x]=l[y])∧jC w4 wr')) (fun i _=>l.length - (intOf i).toNat)
    case atStart=>exact⟨0,h0,rfl,by show _∧_;exact⟨fun i x y h=>by omega,jC.refl _⟩⟩
    case round=>
     obtain⟨q,hq,rfl,HW⟩:=hrel
     by_cases hlt:q+1 < l.length
     ·obtain⟨x,hx⟩:∃x,p[q]? = some x:=⟨_,List.getElem?_eq_getElem (by have:=HPL.out;omega)⟩
      obtain⟨y,hy⟩:∃y,p[q+1]? = some y:=⟨_,List.getElem?_eq_getElem (by have:=HPL.out;omega)⟩
      have c1:=HW.out.2.cell (HCL.out q x hx)
      have c2:=HW.out.2.cell (HCL.out (q+1) y hy)
      have bc:=jA (HW.out.2.heap HB4.out) 0 _ rfl
      obtain⟨xi,hxl⟩:=x
      obtain⟨yi,hyl⟩:=y
      obtain⟨b,off,rfl,s1⟩:∃b off,a=some ⟨b,off,none⟩∧wr.cell? ⟨b,off+xi,none⟩=some (.string l[xi]):=by
       obtain⟨a',c',e',_,_,_,h⟩:=HS.out
       injection e' with e1 _ _
       obtain⟨_,b,off,e4,hc⟩:=h xi l[xi] (List.getElem?_eq_getElem hxl)
       exact⟨b,off,by rw[e1,e4],(HG4.out.trans HW.out.2).cell hc⟩
      have s2:wr.cell? ⟨b,off+yi,none⟩=some (.string l[yi]):=by
       obtain⟨a',c',e',_,_,_,h⟩:=HS.out
       injection e' with e1 _ _
       obtain⟨_,b',off',e4,hc⟩:=h yi l[yi] (List.getElem?_eq_getElem hyl)
       rw[← e1] at e4
       injection e4 with e4
       cases e4
       exact (HG4.out.trans HW.out.2).cell hc
      have HXY:=zh (And.intro hx hy)
      obtain⟨sx,hsx⟩:∃s,l[xi]=s:=⟨_,rfl⟩
      obtain⟨sy,hsy⟩:∃s,l[yi]=s:=⟨_,rfl⟩
      rw[hsx] at s1
      rw[hsy] at s2
      have HSX:=zh (And.intro hsx hsy)
      have hxi:(xi:Int) < l.length:=by omega
      have hyi:(yi:Int) < l.length:=by omega
      have hqi:(q:Int)+1 < l.length:=by omega
      have hqi2:(q:Int) < l.length:=by omega
      have hw1:IntKind.i64.wrap ((q:Int)+1 - 1)=q:=by rw[IntKind.wrap_i64];omega
      clear hx hy hsx hsy
      by_cases hxy:sx=sy
      ·have hne:Hid (¬l.Nodup):=aA HP.out HXY.out.1 HXY.out.2 (by show l[xi]=l[yi];rw[HSX.out.1,HSX.out.2,hxy])
       have hbe:(sx.toList == sy.toList)=true:=by rw[qL];exact decide_eq_true hxy
       clear hxy
       go_wp2_with fail
       go_quiet (fail)
       go_wp2_with fail
       go_ret2
       exact⟨(HG4.out.trans HW.out.2).drewN _,.inl ⟨hne.out,rfl⟩⟩
      ·have hbe:(sx.toList == sy.toList)=false:=by rw[qL];exact decide_eq_false hxy
       have HNE:=zh hxy
       clear hxy
       go_wp2_with fail
       go_quiet (fail)
       go_wp2_with fail
       go_roundw
       case rel=>exact⟨q+1,by omega,by go_num,by
        show _∧_
        refine⟨fun i x y hi hx hy=>?_,HW.out.2.drewN _⟩
        by_cases e:i=q
        ·subst e
         rw[HXY.out.1] at hx
         rw[HXY.out.2] at hy
         injection hx with hx
         injection hy with hy
         subst hx hy
         show ¬l[xi]=l[yi]
         rw[HSX.out.1,HSX.out.2]
         exact HNE.out
        ·exact HW.out.1 i x y (by omega) hx hy⟩
       case measure=>simp[intOf];omega
     ·have hge:¬(q:Int)+1 < l.length:=by omega
      have hst:Hid (∀(i j:Nat) x y,i < j→p[i]? = some x→p[j]? = some y→ltS l[x] l[y]=true):=Q6 HSD.out (fun i x y hx hy=>HW.out.1 i x y (by have:=(List.getElem?_eq_some_iff.1 hy).1;have:=HPL.out;omega) hx hy)
      go_wp2_with fail
      go_ret2
      exact⟨HG4.out.trans HW.out.2,.inr ⟨JJ HP.out hst.out,_,rfl,⟨N+1,l.length,p,rfl,HP.out,hst.out,fun i x hx=>HW.out.2.cell (HCL.out i x hx),rfl⟩,fun a n c e=>by cases e;exact⟨by have:=HN.out;show _≤N+1;omega,Nat.lt_of_lt_of_le HS4.out HW.out.2.size⟩⟩⟩
   ·obtain rfl:l=[]:=List.length_eq_zero_iff.1 (by omega)
    go_wp2_with fail
    refine (Try.slices_SortFunc_none (α:=Nat) _ _ _ _).mono ?_
    rintro r w4 ⟨rfl,rfl⟩
    go_wp2_with fail
    go_loopw [6] (fun i wr'=>i=.int .i64 1∧Hid (jC w wr'∧N+1 < wr'.heap.size)) (fun _ _=>0)
    case atStart=>exact⟨rfl,by show _∧_;exact⟨HGW.out,hblk.out⟩⟩
    case round=>
    obtain⟨rfl,HW⟩:=hrel
    go_wp2_with fail
    go_ret2
    exact⟨HW.out.1,.inr ⟨by simp,_,rfl,⟨N+1,0,[],rfl,by simp,by simp,by simp,rfl⟩,fun a n c e=>by cases e;exact⟨by have:=HN.out;show _≤N+1;omega,HW.out.2⟩⟩⟩
theorem aC (l:List ByteArray) (hl:l.length≤4096) (lv:Value) (w:World) (hs:kO w lv l) :
 Calls Try.prog 61 #[lv] w fun r w'=>a7 w l r w':=(aB l (by omega) lv w hs).mono fun r w' h=>⟨h.1,h.2.imp id (fun ⟨a,v,b,c,_⟩=>⟨a,v,b,c⟩)⟩
theorem Z7 (a b:List UInt8) (k:Nat) (h:a.take k=b.take k):yE a b=yE (a.drop k) (b.drop k):=by
 induction k generalizing a b with
 | zero=>simp
 | succ k ih=>
  cases a with
  | nil=>cases b with
   | nil=>simp
   | cons y b=>simp at h
  | cons x a=>cases b with
   | nil=>simp at h
   | cons y b=>
    simp at h
    obtain⟨rfl,h⟩:=h
    show (if x < x then (-1:Int) else if x < x then 1 else yE a b)=yE (a.drop k) (b.drop k)
    rw[if_neg (UInt8.lt_irrefl x),if_neg (UInt8.lt_irrefl x),ih a b h]
theorem J5 (a:ByteArray) (k:Nat) (h:k < a.size):a.data.toList[k]? = some a[k]:=by
 rw[List.getElem?_eq_getElem (by simpa using h)];rfl
theorem ZA (a:ByteArray):a.data.toList.length=a.size:=by simp
theorem ltS_at (a b:ByteArray) (k:Nat) (h1:k < a.size) (h2:k < b.size) (ht:a.data.toList.take k=b.data.toList.take k) (hne:¬a[k]=b[k]):ltS a b=decide ((a[k].toNat:Int) < (b[k].toNat:Int)):=by
 unfold ltS
 rw[Z7 _ _ k ht]
 obtain⟨hl1,e1⟩:=List.getElem?_eq_some_iff.1 (J5 a k h1)
 obtain⟨hl2,e2⟩:=List.getElem?_eq_some_iff.1 (J5 b k h2)
 rw[List.drop_eq_getElem_cons hl1,List.drop_eq_getElem_cons hl2,e1,e2]
 show decide ((if a[k] < b[k] then (-1:Int) else if b[k] < a[k] then 1 else _) < 0)=_
 have hnn:¬a[k].toNat=b[k].toNat:=fun e=>hne (UInt8.toNat_inj.1 e)
 by_cases h:a[k] < b[k]
 ·have:=UInt8.lt_iff_toNat_lt.1 h
  rw[if_pos h,decide_eq_true (by omega),decide_eq_true (by omega)]
 ·have h':¬a[k].toNat < b[k].toNat:=fun e=>h (UInt8.lt_iff_toNat_lt.2 e)
  rw[if_neg h,if_pos (UInt8.lt_iff_toNat_lt.2 (by omega)),decide_eq_false (by omega),decide_eq_false (by omega)]
theorem VN (a b:ByteArray) (k:Nat) (h1:k≤a.size) (h2:k≤b.size) (ht:a.data.toList.take k=b.data.toList.take k) (hk:k=a.size∨k=b.size):ltS a b=decide ((a.size:Int) < (b.size:Int)):=by
 unfold ltS
 rw[Z7 _ _ k ht]
 by_cases ha:k=a.size
 ·rw[List.drop_eq_nil_iff.2 (by rw[ZA];omega)]
  cases hd:b.data.toList.drop k with
  | nil=>
   have:=List.drop_eq_nil_iff.1 hd
   rw[ZA] at this
   rw[decide_eq_false (by simp[yE,Lib.compareBytes]),decide_eq_false (by omega)]
  | cons y r=>
   have hlt:k < b.size:=by
    have h3:=congrArg List.length hd
    rw[List.length_drop,ZA] at h3
    simp at h3;omega
   rw[decide_eq_true (by simp[yE,Lib.compareBytes]),decide_eq_true (by omega)]
 ·have hkb:k=b.size:=by omega
  rw[List.drop_eq_nil_iff.2 (show b.data.toList.length≤k by rw[ZA];omega)]
  have:¬yE (a.data.toList.drop k) [] < 0:=by cases a.data.toList.drop k<;>simp[yE,Lib.compareBytes]
  rw[decide_eq_false this,decide_eq_false (by omega)]
theorem vZ {w wr:World} {n:Nat} (h:∃q,wr=w.drewN q):∃q,wr.drewN n=w.drewN q:=by
 obtain⟨q,rfl⟩:=h
 exact⟨q+n,by simp[World.drewN,Nat.add_assoc]⟩
theorem aD (a b:ByteArray) (w:World) (ha:jI a.size) (hb:jI b.size):Calls Try.prog 74 #[.string a,.string b] w fun r w'=>r=.returned (.bool (ltS a b))∧∃q,w'=w.drewN q:=by
 unfold jI at ha hb
 go_enter Try.func74,Try.ntmps74
 go_wp2_with fail
 go_loopw [5] (fun i wr=>∃k:Nat,k≤a.size∧k≤b.size∧i=.int .i64 k∧Hid (a.data.toList.take k=b.data.toList.take k∧∃q,wr=w.drewN q)) (fun i _=>a.size - (intOf i).toNat)
 case atStart=>exact⟨0,by omega,by omega,rfl,by show _∧_;exact⟨by simp,0,rfl⟩⟩
 case round=>
  obtain⟨k,hka,hkb,rfl,HW⟩:=hrel
  by_cases h1:k < a.size
  ·by_cases h2:k < b.size
   ·have h1i:(k:Int) < a.size:=by omega
    have h2i:(k:Int) < b.size:=by omega
    by_cases hxy:a[k]=b[k]
    ·have HXY:=zh hxy
     have hq:((a[k].toNat:Int) != (b[k].toNat:Int))=false:=by rw[hxy];simp
     clear hxy
     go_wp2_with fail
     go_quiet (fail)
     go_wp2_with fail
     go_roundw
     case rel=>exact⟨k+1,by omega,by omega,by go_num,by
      show _∧_
      exact⟨by rw[List.take_add_one,List.take_add_one,HW.out.1,J5 a k h1,J5 b k h2,HXY.out],vZ HW.out.2⟩⟩
     case measure=>simp[intOf];omega
    ·have HL:Hid (ltS a b=decide (a[k].toNat < b[k].toNat)):=by show _=_;rw[ltS_at a b k h1 h2 HW.out.1 hxy];simp only[Int.ofNat_lt]
     have hq:((a[k].toNat:Int) != (b[k].toNat:Int))=true:=by
      simp only[bne_iff_ne,ne_eq,Int.natCast_inj]
      exact fun e=>hxy (UInt8.toNat_inj.1 e)
     clear hxy
     go_wp2_with fail
     go_quiet (fail)
     go_wp2_with fail
     go_quiet (fail)
     go_wp2_with fail
     go_ret
     exact⟨by rw[HL.out];rfl,vZ (vZ HW.out.2)⟩
   ·have HL:Hid (ltS a b=decide (a.size < b.size)):=by show _=_;rw[VN a b k hka hkb HW.out.1 (by omega)];simp only[Int.ofNat_lt]
    have h1i:(k:Int) < a.size:=by omega
    have h2i:¬(k:Int) < b.size:=by omega
    go_wp2_with fail
    go_ret
    exact⟨by rw[HL.out];rfl,HW.out.2⟩
  ·have HL:Hid (ltS a b=decide (a.size < b.size)):=by show _=_;rw[VN a b k hka hkb HW.out.1 (by omega)];simp only[Int.ofNat_lt]
   have h1i:¬(k:Int) < a.size:=by omega
   go_wp2_with fail
   go_ret
   exact⟨by rw[HL.out];rfl,HW.out.2⟩
theorem ba_snoc (s:ByteArray) (k:Nat) (h:k < s.size):s.data.toList.take (k+1)=s.data.toList.take k++[s[k]]:=by
 rw[List.take_add_one,J5 s k h];rfl
theorem J6 (s:ByteArray) (w:World) (hs:jI s.size):Calls Try.prog 73 #[.string s] w fun r w'=>r=.returned (.bool (zF s))∧w'=w:=by
 unfold jI at hs
 go_enter Try.func73,Try.ntmps73
 go_wp2_with fail
 go_loop [3] (fun i=>∃k:Nat,k≤s.size∧i=.int .i64 k∧Hid ((0:UInt8)∉s.data.toList.take k)) (fun i=>s.size - (intOf i).toNat)
 case atStart=>exact⟨0,Nat.zero_le _,rfl,by show _∉_;simp⟩
 case round=>
  obtain⟨k,hk,rfl,HW⟩:=hrel
  by_cases hlt:k < s.size
  ·have yD:(k:Int) < s.size:=by omega
   by_cases h0:s[k]=0
   ·have HZ:Hid (zF s=true):=by
     show _=_
     exact decide_eq_true (List.mem_of_getElem? (by rw[J5 s k hlt,h0]))
    have hq:((s[k].toNat:Int) == 0)=true:=by rw[h0];rfl
    clear h0
    go_wp2_with fail
    go_ret
    exact⟨by rw[HZ.out];rfl,rfl⟩
   ·have hq:((s[k].toNat:Int) == 0)=false:=by
     simp only[beq_eq_false_iff_ne,ne_eq]
     exact fun e=>h0 (UInt8.toNat_inj.1 (by simpa using e))
    have HN:=zh h0
    clear h0
    go_wp2_with fail
    go_round
    case rel=>exact⟨k+1,by omega,by go_num,by
     show _∉_
     rw[ba_snoc s k hlt]
     intro hm
     rcases List.mem_append.1 hm with hm|hm
     ·exact HW.out hm
     ·simp at hm;exact HN.out hm.symm⟩
    case measure=>simp[intOf];omega
  ·have HZ:Hid (zF s=false):=by
    show _=_
    have h:=HW.out
    rw[List.take_of_length_le (by rw[ZA];omega)] at h
    exact decide_eq_false h
   go_wp2_with fail
   go_ret
   exact⟨by rw[HZ.out];rfl,rfl⟩
def zU (w:World) (v:Value) (l:List Int):Prop:=
 ∃a c,v=.slice a l.length c∧l.length≤c∧jI c∧(a=none→c=0)∧∀(i:Nat) (x:Int),l[i]? = some x→True∧∃b off,a=some ⟨b,off,none⟩∧w.cell? ⟨b,off+i,none⟩=some (.int .i64 x)
end Go.Proofs.Ytfbeepkogcmlmaa
