/-
  Texts of the proof.
-/
import Derived.Test.YtjnpcddbgfmpcaaGreatDoorBMapsPAF
import Derived.Laws.EntriesVeiled
import Derived.Test.YtjnpcddbgfmpcaaGreatDoorBMapsPAG
set_option linter.unusedVariables false
set_option linter.unusedSimpArgs false
set_option maxHeartbeats 4000000
set_option maxRecDepth 100000
namespace Go.Proofs.YtjnpcddbgfmpcaaGreatDoor
open Go.Proofs.Tryz
open Go Go.ChangeShapes Go.WideShapes Go.ChangeAt Go.RowKit Go.Joins Go.Deep
abbrev fnvD (k:Nat) (cap:Array Value):Value:=.func (.func k) #[] cap
theorem YW {x:Int} (h:isW x=true):x=1∨x=2∨x=4∨x=8:=by
 simp[isW] at h;omega
def leF:List UInt8→Int
 | []=>0
 | c::r=>(c.toNat:Int)+256*leF r
theorem gR (c:UInt8):∀l:List UInt8,leF (l++[c])=leF l+c.toNat*256 ^ l.length
 | []=>by simp[leF]
 | d::r=>by
  have ih:=gR c r
  simp only[List.cons_append,leF,List.length_cons,ih]
  rw[Int.mul_add,← Int.mul_assoc,Int.mul_comm 256 (c.toNat:Int),Int.mul_assoc,Int.pow_succ,Int.mul_comm 256 ((256:Int) ^ r.length)]
  omega
theorem l5:∀l:List UInt8,0≤leF l
 | []=>by simp[leF]
 | d::r=>by have:=l5 r;simp only[leF];omega
theorem l6:∀l:List UInt8,leF l < 256 ^ l.length
 | []=>by simp[leF]
 | d::r=>by
  have:=l6 r
  have hd:=d.toNat_lt
  simp only[leF,List.length_cons]
  rw[Int.pow_succ]
  omega
theorem rN (l:List UInt8) (k:Nat) (h:k < l.length):leF (l.take (k+1))=leF (l.take k)+l[k].toNat*256 ^ k:=by
 rw[List.take_succ_eq_append_getElem h,gR,List.length_take,Nat.min_eq_left (by omega)]
theorem nU (b k:Nat) (hk:k < 8) (hb:b < 256):b*256 ^ k+256 ^ k≤18446744073709551616:=by
 have h1:(b+1)*256 ^ k≤256*256 ^ k:=Nat.mul_le_mul_right _ hb
 have h2:256*256 ^ k=256 ^ (k+1):=by rw[Nat.pow_succ,Nat.mul_comm]
 have h3:256 ^ (k+1)≤256 ^ 8:=Nat.pow_le_pow_right (by decide) hk
 rw[Nat.add_mul] at h1
 have:(256:Nat) ^ 8=18446744073709551616:=by decide
 omega
theorem or_lem (u:Int) (b k:Nat) (hk:k < 8) (u0:0≤u) (hu:u < 256 ^ k) (hb:b < 256):bits .or .u64 u ((b:Int)*256 ^ k)=u+b*256 ^ k:=by
 obtain⟨n,rfl⟩:=Int.eq_ofNat_of_zero_le u0
 have hx:((b:Int)*256 ^ k)=((b*256 ^ k:Nat):Int):=by simp
 have hn:n < 256 ^ k:=by have:((n:Nat):Int) < ((256 ^ k:Nat):Int):=(by simpa using hu);exact Int.ofNat_lt.1 this
 have ht:=nU b k hk hb
 have e:(256:Nat) ^ k=2 ^ (8*k):=by rw[Nat.pow_mul]
 rw[hx]
 unfold bits
 show IntKind.u64.wrap (((BitVec.ofInt 64 (n:Int)) ||| (BitVec.ofInt 64 ((b*256 ^ k:Nat):Int))).toNat:Int)=_
 rw[BitVec.ofInt_natCast,BitVec.ofInt_natCast,BitVec.toNat_or,BitVec.toNat_ofNat,BitVec.toNat_ofNat,Nat.mod_eq_of_lt (by omega),Nat.mod_eq_of_lt (by omega),Nat.or_comm]
 rw[show b*256 ^ k=2 ^ (8*k)*b by rw[e,Nat.mul_comm],← Nat.two_pow_add_eq_or_of_lt (by rw[← e];exact hn)]
 rw[← e,Nat.mul_comm (256 ^ k) b]
 simp[IntKind.wrap,IntKind.bits,IntKind.signed]
 have:((b*256 ^ k+n:Nat):Int) < 18446744073709551616:=by omega
 simp at this
 rw[Int.emod_eq_of_lt (by have:(0:Int)≤((b*256 ^ k+n:Nat):Int):=Int.natCast_nonneg _;simpa using this) this]
 omega
theorem shl_lem (b k:Nat) (hk:k < 8) (hb:b < 256):IntKind.u64.wrap ((b:Int)*2 ^ (8*(k:Int)).toNat)=(b:Int)*256 ^ k:=by
 have ht:=nU b k hk hb
 rw[show (8*(k:Int)).toNat=8*k by omega,Int.pow_mul]
 have:((b*256 ^ k:Nat):Int) < 18446744073709551616:=by have:=Nat.pos_of_ne_zero (show (256:Nat) ^ k≠0 by simp);omega
 simp at this
 simp[IntKind.wrap,IntKind.bits,IntKind.signed]
 exact Int.emod_eq_of_lt (by have:(0:Int)≤((b*256 ^ k:Nat):Int):=Int.natCast_nonneg _;simpa using this) this
theorem w8_lem (k:Nat) (hk:k < 8):IntKind.i64.wrap (8*(k:Int))=8*k:=by
 simp[IntKind.wrap,IntKind.bits,IntKind.signed];omega
theorem wb_lem (b:Nat) (hb:b < 256):IntKind.u64.wrap (b:Int)=b:=by
 simp[IntKind.wrap,IntKind.bits,IntKind.signed];omega
theorem oN {w:World} (sv:Value) (l:List UInt8) (hb:kB w sv l) (j8:l.length≤8) (pa:Nat) (hp:w.heap[pa]? = some (.cells #[.int .u64 0] 38)) (hap:∀ad n c,sv=.slice (some ad) n c→ad.block≠pa) :
 Calls prog 58 #[sv,.pointer (some ⟨pa,0,none⟩)] w fun r w'=>r=.returned (.int .i64 0)∧w'.heap[pa]? = some (.cells #[.int .u64 (leF l)] 38)∧Moved (fun b=>b=pa) w w':=by
 have HB0:=zh hb
 have HA:=zh hap
 obtain⟨a,c,rfl,j2⟩:=hb
 clear hap
 go_enter func58,ntmps58
 go_wp2_with fail
 go_loopw [4,5,8] (fun _ _ i wr=>∃k:Nat,k≤l.length∧i=.int .i64 k∧Hid (wr.heap[pa]? = some (.cells #[.int .u64 (leF (l.take k))] 38)∧Moved (fun b=>b=pa) w wr)) (fun _ _ i _=>l.length - (intOf i).toNat)
 case atStart=>exact⟨0,Nat.zero_le _,rfl,hp,Moved.refl _ _⟩
 case round=>
  obtain⟨k,hk,rfl,HW⟩:=hrel
  by_cases hlt:k < l.length
  ·obtain⟨bl,off,rfl,q0⟩:=j2.2.2 k l[k] (List.getElem?_eq_getElem hlt)
   have d0:=HW.out.2.cell q0 (HA.out ⟨bl,off,none⟩ _ _ rfl)
   have HSN:=zh (rN l k hlt)
   have hhi:=l6 (l.take k)
   have hlo:=l5 (l.take k)
   have jJ:=HW.out.1
   generalize leF (l.take k)=u at *
   generalize l[k]=b at *
   have g0:wr.cell? ⟨pa,0,none⟩=some (.int .u64 u):=by simp[World.cell?,jJ]
   have f0:=jE jJ 0
   have HROW:=zh jJ
   have hk8:k < 8:=by omega
   have hb:b.toNat < 256:=b.toNat_lt
   rw[List.length_take,Nat.min_eq_left (Nat.le_of_lt hlt)] at hhi
   clear q0 jJ
   go_wp2_with fail
   refine JM jA [[],[],[1],[],[3],[2,4],[0,5],[6]] [[(14,1),(15,2),(16,3),(17,4),(18,5)],[(13,0),(16,3),(17,4),(18,5),(19,6)],[(13,0),(14,1),(16,3),(17,4),(19,6)],[(13,0),(14,1),(15,2),(18,5),(19,6)],[(13,0),(14,1),(15,2),(16,3),(19,6)],[(13,0),(14,1),(15,2),(16,3),(17,4)],[(13,0),(14,1),(15,2),(16,3),(17,4),(18,5)],[(13,0),(14,1),(15,2),(16,3),(17,4),(18,5),(19,6)]]
    [Is (.int .u64 u),Is (.int .u8 b.toNat),Is (.int .u64 b.toNat),Is (.int .i64 k),Is (.int .i64 (8*k:Int)),Is (.int .u64 (b.toNat*256 ^ k:Int)),Is (.int .u64 (u+b.toNat*256 ^ k:Int))]
    zk jA.trans jA.refl (jA.refl _).drew zk ⟨jS,jS,jS,jS,jS,jS,jS,trivial⟩ rfl ⟨?_,?_,?_,?_,?_,?_,?_,trivial⟩ ?_ rfl
   ·intro y w2 hG hD K hK
    have dg0:=hG.cell g0
    exact zsr
   ·exact zst
   ·intro y w2 hG hD K hK
    simp only[zD,zq4,zq5,Is,and_true] at hD
    simp only[jB,Act.put,zq1,zq2,zq3,zq4,zq5,Is] at hK⊢
    simp only[hD] at hK⊢
    clear hD
    refine jL ?_
    go_simp
    exact hK _ _ _ rfl (jA.refl _) (congrArg (Value.int _) (wb_lem b.toNat hb))
   ·exact zst
   ·intro y w2 hG hD K hK
    simp only[zD,zq4,zq5,Is,and_true] at hD
    simp only[jB,Act.put,zq1,zq2,zq3,zq4,zq5,Is] at hK⊢
    simp only[hD] at hK⊢
    clear hD
    refine jL ?_
    go_simp
    exact hK _ _ _ rfl (jA.refl _) (congrArg (Value.int _) (w8_lem k hk8))
   ·intro y w2 hG hD K hK
    simp only[zD,zq4,zq5,Is,and_true] at hD
    simp only[jB,Act.put,zq1,zq2,zq3,zq4,zq5,Is] at hK⊢
    simp only[hD] at hK⊢
    clear hD
    refine jL ?_
    go_simp
    exact hK _ _ _ rfl (jA.refl _) (congrArg (Value.int _) (shl_lem b.toNat k hk8 hb))
   ·intro y w2 hG hD K hK
    simp only[zD,zq4,zq5,Is,and_true] at hD
    simp only[jB,Act.put,zq1,zq2,zq3,zq4,zq5,Is] at hK⊢
    simp only[hD] at hK⊢
    clear hD
    refine jL ?_
    go_simp
    exact hK _ _ _ rfl (jA.refl _) (congrArg (Value.int _) (or_lem u b.toNat k hk8 hlo hhi hb))
   ·intro y w2 hG hF K hK
    simp only[yV,Is,and_true,Nat.reduceAdd] at hF
    have h0:=hF.1
    have h1:=hF.2.1
    have h2:=hF.2.2.1
    have h3:=hF.2.2.2.1
    have h4:=hF.2.2.2.2.1
    have h5:=hF.2.2.2.2.2.1
    have h6:=hF.2.2.2.2.2.2
    clear hF
    simp only[qT]
    simp only[jB,Act.put,zq1,zq2,zq3,zq4,zq5,Is] at hK⊢
    rw[h0,h1,h2,h3,h4,h5,h6]
    clear h0 h1 h2 h3 h4 h5 h6
    refine jL ?_
    have dg0:=hG.cell g0
    have hr2:=hG.heap HROW.out
    have df0:=jE hr2 0
    go_simp
    refine hK _ _ ?_
    have HR2:=zh hr2
    have HG2:=zh hG
    clear hr2 hG dg0 df0
    go_wp2
    go_roundw
    case rel=>
     refine⟨k+1,by omega,by go_num,?_⟩
     show _∧_
     rw[HSN.out]
     exact⟨by have:=heap_setCell_same w2 pa 0 _ _ (.int .u64 (u+b.toNat*256 ^ k)) HR2.out;simpa using this,Moved.setCell (p:=⟨pa,0,none⟩) (HW.out.2.trans' (Moved.of_grew HG2.out)) (fun _=>rfl) _⟩
    case measure=>simp[intOf];omega
  ·have e:k=l.length:=by omega
   have hw:=HW.out
   rw[e,List.take_length] at hw
   have HF:=zh hw
   clear hw HW
   go_wp2
   go_ret
   exact⟨rfl,HF.out⟩
theorem oO {w:World} {p:Nat} {cs:Array Value} {t:TypeId} (h:w.heap[p]? = some (.cells cs t (0,0))) (k:Nat) (v:Value) (hv:cs[k]? = some v):w.cell? ⟨p,k,none⟩=some v:=by
 simp[World.cell?,h,hv]
def kC (l:List UInt8) (at_ x:Int):Int × Int:=if isW x=true then (if at_ < 0∨at_ > l.length - x then (0,6) else (leF ((l.drop at_.toNat).take x.toNat),0)) else (0,2)
theorem oP {w:World} {bl off:Nat} {c:Nat} {l:List UInt8} (hb:kB w (.slice (some ⟨bl,off,none⟩) l.length c) l) (k x c2:Nat) (h:k+x≤l.length) (hc:x≤c2):kB w (.slice (some ⟨bl,off+k,none⟩) x c2) ((l.drop k).take x):=by
 obtain⟨a,c',e,_,_,h4⟩:=hb
 cases e
 refine⟨some ⟨bl,off+k,none⟩,c2,by simp;omega,by simp;omega,fun h=>(by cases h),fun i b hi=>?_⟩
 rw[List.getElem?_take] at hi
 split at hi
 ·rw[List.getElem?_drop] at hi
  obtain⟨bl',off',e,j2⟩:=h4 (k+i) b hi
  cases e
  exact⟨bl,off+k,rfl,by rw[Nat.add_assoc];exact j2⟩
 ·cases hi
theorem gS {w:World} (sv:Value) (l:List UInt8) (hb:kB w sv l) (j8:l.length≤1073741824) (at_ x:Int) (ha:JN at_) (pa:Nat) (hp:w.heap[pa]? = some (.cells #[.int .u64 0] 38)) (hap:∀ad n c,sv=.slice (some ad) n c→ad.block≠pa) :
 Calls prog 57 #[sv,.int .i64 at_,.int .i64 x,fnvD 58 #[.pointer (some ⟨pa,0,none⟩)]] w fun r w'=>r=.returned (.int .i64 (kC l at_ x).2)∧w'.heap[pa]? = some (.cells #[.int .u64 (kC l at_ x).1] 38)∧Moved (fun b=>b=pa) w w':=by
 have HB0:=zh hb
 have HA:=zh hap
 have HP:=zh hp
 obtain⟨a,c,rfl,j2⟩:=hb
 have hc:=j2.1
 have HC:=zh j2.2.2
 clear hap j2 hp
 unfold kC
 by_cases hx:isW x=true
 ·rw[if_pos hx]
  have HX:=zh hx
  by_cases hr:at_ < 0∨at_ > l.length - x
  ·rw[if_pos hr]
   have hx1:1≤x∧x≤8:=by rcases YW hx with rfl | rfl | rfl | rfl<;>omega
   go_enter func57,ntmps57
   go_wp2_with fail
   refine (ZM x _).mono ?_
   rw[HX.out]
   rintro r w1 ⟨rfl,rfl⟩
   by_cases h0:at_ < 0
   ·go_wp2
    go_ret
    exact⟨rfl,HP.out,Moved.refl _ _⟩
   ·have h1:(l.length:Int) - x < at_:=by omega
    go_wp2
    go_ret
    exact⟨rfl,HP.out,Moved.refl _ _⟩
  ·rw[if_neg hr]
   have hx1:1≤x∧x≤8:=by rcases YW hx with rfl | rfl | rfl | rfl<;>omega
   obtain⟨k,rfl⟩:=Int.eq_ofNat_of_zero_le (show 0≤at_ by omega)
   obtain⟨y,rfl⟩:=Int.eq_ofNat_of_zero_le (show 0≤x by omega)
   have hky:k+y≤l.length:=by omega
   obtain⟨bl,off,rfl,_⟩:=HC.out 0 l[0] (List.getElem?_eq_getElem (by omega))
   go_enter func57,ntmps57
   go_wp2_with fail
   refine (ZM y _).mono ?_
   rw[HX.out]
   rintro r w1 ⟨rfl,rfl⟩
   go_wp2_with fail
   refine (oN _ ((l.drop k).take y) (oP HB0.out k y (c - k) hky (by omega)) (by simp;omega) pa HP.out (fun ad n c' e=>by cases e;exact HA.out ⟨bl,off,none⟩ _ _ rfl)).mono ?_
   rintro r w2 ⟨rfl,jJ,hm⟩
   have HR:=zh jJ
   have HM:=zh hm
   clear jJ hm
   go_wp2
   go_ret
   exact⟨rfl,by simpa using HR.out,HM.out⟩
 ·rw[if_neg hx]
  have HX:=zh (show isW x=false by simpa using hx)
  clear hx
  go_enter func57,ntmps57
  go_wp2_with fail
  refine (ZM x _).mono ?_
  rw[HX.out]
  rintro r w1 ⟨rfl,rfl⟩
  go_wp2
  go_ret
  exact⟨rfl,HP.out,Moved.refl _ _⟩
theorem VB {w:World} (sv:Value) (l:List UInt8) (hb:kB w sv l) (j8:l.length≤1073741824) (at_ x:Int) (ha:JN at_) (hap:∀ad n c,sv=.slice (some ad) n c→ad.block < w.heap.size) :
 Calls prog 18 #[sv,.int .i64 at_,.int .i64 x] w fun r w'=>r=.returned (.tuple #[.int .u64 (kC l at_ x).1,.int .i64 (kC l at_ x).2])∧jA w w':=by
 have HB0:=zh hb
 have HA:=zh hap
 have hmf:∀(fn:Fn) (first cap:Array Value) (w:World),(Instr.makeFunc fn first cap).run prog w=.ok (.func fn first cap) w:=fun _ _ _ _=>rfl
 obtain⟨a,c,rfl,j2⟩:=hb
 clear hap j2
 go_enter func18,ntmps18
 go_wp2_with fail
 refine (gS _ l (HB0.out.grew ((jA.refl w).alloc _)) j8 at_ x ha w.heap.size (heap_alloc_new _ _) (fun ad n c' e=>by have:=HA.out ad n c' e;omega)).mono ?_
 rintro r w2 ⟨rfl,jJ,hm⟩
 have g0:w2.cell? ⟨w.heap.size,0,none⟩=some (.int .u64 (kC l at_ x).1):=oO jJ 0 _ rfl
 have f0:=jE jJ 0
 have HM:=zh hm
 clear jJ hm
 obtain⟨q,hq⟩:∃q,q=kC l at_ x:=⟨_,rfl⟩
 rw[← hq] at g0⊢
 have hm2:Moved (fun b=>b=w.heap.size) w w2:=((Moved.refl _ w).alloc _).trans HM.out (fun _ _ h=>h)
 have HG:Hid (jA w w2):=hm2.below (Nat.le_refl _) (fun k e=>by omega)
 clear hm2
 go_wp2
 refine bodyPost_ret (v:=.tuple #[.int .u64 q.1,.int .i64 q.2]) ?_ rfl ⟨by rw[hq],?_⟩
 ·simp[results,results18,go_sem,g0,hq]
 ·exact HG.out.setCell (Nat.le_refl _) _
theorem rO {l:List UInt8} {at_ x:Int} (h:(kC l at_ x).2=0):isW x=true∧0≤(kC l at_ x).1∧(kC l at_ x).1 < 256 ^ x.toNat:=by
 revert h
 unfold kC
 split
 ·rename_i hx
  split
  ·simp
  ·intro _
   refine⟨hx,l5 _,?_⟩
   refine Int.lt_of_lt_of_le (l6 _) ?_
   have h1:((l.drop at_.toNat).take x.toNat).length≤x.toNat:=by simp;omega
   have h2:=Nat.pow_le_pow_right (n:=256) (by decide) h1
   have:((256 ^ ((l.drop at_.toNat).take x.toNat).length:Nat):Int)≤((256 ^ x.toNat:Nat):Int):=Int.ofNat_le.2 h2
   simpa using this
 ·simp
def sgnF (u x:Int):Int:=if u < 2 ^ (8*x.toNat - 1) then u else u - 2 ^ (8*x.toNat)
def KE (l:List UInt8) (at_ x:Int):Int × Int:=if (kC l at_ x).2=0 then (sgnF (kC l at_ x).1 x,0) else (0,(kC l at_ x).2)
end Go.Proofs.YtjnpcddbgfmpcaaGreatDoor
