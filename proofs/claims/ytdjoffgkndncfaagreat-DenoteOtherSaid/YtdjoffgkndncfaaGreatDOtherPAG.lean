/-Texts-/
import Derived.Test.YtdjoffgkndncfaaGreatDOtherPAE
import Derived.Laws.EntriesVeiled
import Derived.Test.YtdjoffgkndncfaaGreatDOtherPAF
set_option linter.unusedVariables false
set_option linter.unusedSimpArgs false
set_option maxHeartbeats 4000000
set_option maxRecDepth 100000
namespace Go.Proofs.YtdjoffgkndncfaaGreat
open Go.Proofs.Tryz
open Go Go.ChangeShapes Go.WideShapes Go.ChangeAt Go.RowKit Go.Joins Go.Deep
variable {x:Int} {w:World} {l:List UInt8}
abbrev fnvD (k:Nat) (cap:Array Value):Value:=.func (.func k) #[] cap
theorem yL (h:isW x=true):x=1∨x=2∨x=4∨x=8:=by
 simp[isW] at h;omega
def leF:List UInt8→Int
 | []=>0
 | c::r=>(c.toNat:Int)+256*leF r
theorem uK (c:UInt8):∀l:List UInt8,leF (l++[c])=leF l+c.toNat*256 ^ l.length
 | []=>by simp[leF]
 | d::r=>by
  have ih:=uK c r;simp only[qz,leF,zz,ih];rw[Int.mul_add,← Int.mul_assoc,Int.mul_comm 256 (c.toNat:Int),Int.mul_assoc,Int.pow_succ,Int.mul_comm 256 ((256:Int) ^ r.length)];omega
theorem BC:∀l:List UInt8,0≤leF l
 | []=>by simp[leF]
 | d::r=>by have:=BC r;simp only[leF];omega
theorem BD:∀l:List UInt8,leF l < 256 ^ l.length
 | []=>by simp[leF]
 | d::r=>by
  have:=BD r;have hd:=d.toNat_lt;simp only[leF,zz];rw[Int.pow_succ];omega
theorem GZ (l:List UInt8) (k:Nat) (h:k < l.length):leF (l.take (k+1))=leF (l.take k)+l[k].toNat*256 ^ k:=by
 rw[List.take_succ_eq_append_getElem h,uK,qr,xy zo]
theorem DC (b k:Nat) (hk:k < 8) (hb:b < 256):b*256 ^ k+256 ^ k≤18446744073709551616:=by
 have h1:(b+1)*256 ^ k≤256*256 ^ k:=Nat.mul_le_mul_right _ hb;have h2:256*256 ^ k=256 ^ (k+1):=by rw[Nat.pow_succ,Nat.mul_comm]
 have h3:256 ^ (k+1)≤256 ^ 8:=Nat.pow_le_pow_right zd hk;rw[Nat.add_mul] at h1;have:(256:Nat) ^ 8=18446744073709551616:=by decide
 omega
theorem or_lem (u:Int) (b k:Nat) (hk:k < 8) (u0:0≤u) (hu:u < 256 ^ k) (hb:b < 256):bits .or .u64 u ((b:Int)*256 ^ k)=u+b*256 ^ k:=by
 obtain⟨n,rfl⟩:=Int.eq_ofNat_of_zero_le u0;have hx:((b:Int)*256 ^ k)=((b*256 ^ k:Nat):Int):=by simp
 have hn:n < 256 ^ k:=by have:((n:Nat):Int) < ((256 ^ k:Nat):Int):=(by simpa using hu);exact Int.ofNat_lt.1 this
 have ht:=DC b k hk hb;have e:(256:Nat) ^ k=2 ^ (8*k):=by rw[Nat.pow_mul]
 rw[hx];unfold bits;show IntKind.u64.wrap (((BitVec.ofInt 64 (n:Int)) ||| (BitVec.ofInt 64 ((b*256 ^ k:Nat):Int))).toNat:Int)=_;rw[BitVec.ofInt_natCast,BitVec.ofInt_natCast,BitVec.toNat_or,BitVec.toNat_ofNat,BitVec.toNat_ofNat,Nat.mod_eq_of_lt zo,Nat.mod_eq_of_lt zo,Nat.or_comm];rw[show b*256 ^ k=2 ^ (8*k)*b by rw[e,Nat.mul_comm],← Nat.two_pow_add_eq_or_of_lt (by rw[← e];exact hn)];rw[← e,Nat.mul_comm (256 ^ k) b];simp[IntKind.wrap,IntKind.bits,IntKind.signed];have:((b*256 ^ k+n:Nat):Int) < 18446744073709551616:=by omega
 simp at this;rw[Int.emod_eq_of_lt (by have:(0:Int)≤((b*256 ^ k+n:Nat):Int):=Int.natCast_nonneg _;simpa using this) this];omega
theorem shl_lem (b k:Nat) (hk:k < 8) (hb:b < 256):IntKind.u64.wrap ((b:Int)*2 ^ (8*(k:Int)).toNat)=(b:Int)*256 ^ k:=by
 have ht:=DC b k hk hb;rw[show (8*(k:Int)).toNat=8*k by omega,Int.pow_mul];have:((b*256 ^ k:Nat):Int) < 18446744073709551616:=by have:=Nat.pos_of_ne_zero (show (256:Nat) ^ k≠0 by simp);omega
 simp at this;simp[IntKind.wrap,IntKind.bits,IntKind.signed];exact Int.emod_eq_of_lt (by have:(0:Int)≤((b*256 ^ k:Nat):Int):=Int.natCast_nonneg _;simpa using this) this
theorem w8_lem (k:Nat) (hk:k < 8):IntKind.i64.wrap (8*(k:Int))=8*k:=by
 simp[IntKind.wrap,IntKind.bits,IntKind.signed];omega
theorem wb_lem (b:Nat) (hb:b < 256):IntKind.u64.wrap (b:Int)=b:=by
 simp[IntKind.wrap,IntKind.bits,IntKind.signed];omega
theorem EG (sv:Value) (l:List UInt8) (hb:zK w sv l) (kE:l.length≤8) (pa:Nat) (hp:w.heap[pa]? = some (.cells #[.int .u64 0] 22)) (hap:∀ad n c,sv=.slice (some ad) n c→ad.block≠pa) :
 Calls prog 249 #[sv,.pointer (some ⟨pa,0,none⟩)] w λr w'=>r=.returned (.int .i64 0)∧w'.heap[pa]? = some (.cells #[.int .u64 (leF l)] 22)∧Moved (λb=>b=pa) w w':=by
 have HB0:=zh hb;have HA:=zh hap;obtain⟨a,c,rfl,kM⟩:=hb;clear hap;go_enter func249,ntmps249;go_wp2_with fail
 go_loopw [4,5,8] (λ_ _ i wr=>∃k:Nat,k≤l.length∧i=.int .i64 k∧Hid (wr.heap[pa]? = some (.cells #[.int .u64 (leF (l.take k))] 22)∧Moved (λb=>b=pa) w wr)) (λ_ _ i _=>l.length - (intOf i).toNat)
 case atStart=>exact⟨0,Nat.zero_le _,rfl,hp,Moved.refl _ _⟩
 case round=>
  obtain⟨k,hk,rfl,HW⟩:=hrel;by_cases hlt:k < l.length
  ·obtain⟨bl,off,rfl,q0⟩:=kM.2.2 k l[k] (za hlt);have d0:=HW.2.cell q0 (HA.out ⟨bl,off,none⟩ _ _ rfl);have HSN:=zh (GZ l k hlt);have hhi:=BD (l.take k);have hlo:=BC (l.take k);have jK:=HW.1;generalize leF (l.take k)=u at *;generalize l[k]=b at *;have g0:wr.cell? ⟨pa,0,none⟩=some (.int .u64 u):=by simp[World.cell?,jK]
   have f0:=jE jK 0;have KP:=zh jK;have hk8:k < 8:=by omega
   have hb:b.toNat < 256:=b.toNat_lt;rw[qr,xy (ye hlt)] at hhi;clear q0 jK;go_wp2_with fail;refine vG jC [[],[],[1],[],[3],[2,4],[0,5],[6]] [[(14,1),(15,2),(16,3),(17,4),(18,5)],[(13,0),(16,3),(17,4),(18,5),(19,6)],[(13,0),(14,1),(16,3),(17,4),(19,6)],[(13,0),(14,1),(15,2),(18,5),(19,6)],[(13,0),(14,1),(15,2),(16,3),(19,6)],[(13,0),(14,1),(15,2),(16,3),(17,4)],[(13,0),(14,1),(15,2),(16,3),(17,4),(18,5)],[(13,0),(14,1),(15,2),(16,3),(17,4),(18,5),(19,6)]]
    [Is (.int .u64 u),Is (.int .u8 b.toNat),Is (.int .u64 b.toNat),Is (.int .i64 k),Is (.int .i64 (8*k:Int)),Is (.int .u64 (b.toNat*256 ^ k:Int)),Is (.int .u64 (u+b.toNat*256 ^ k:Int))]
    zk jC.trans jC.refl (jC.refl _).drew zk ⟨jJ,jJ,jJ,jJ,jJ,jJ,jJ,trivial⟩ rfl ⟨?_,?_,?_,?_,?_,?_,?_,trivial⟩ ?_ rfl
   ·intro y w2 hG hD K hK;have dg0:=hG.cell g0;exact zsr
   ·exact zst
   ·intro y w2 hG hD K hK;simp only[kC,zq4,zq5,Is,and_true] at hD;simp only[jF,Act.put,zq,Is] at hK⊢;simp only[hD] at hK⊢;clear hD;refine jN ?_;go_simp;exact hK _ _ _ rfl (jC.refl _) (ql (Value.int _) (wb_lem b.toNat hb))
   ·exact zst
   ·intro y w2 hG hD K hK;simp only[kC,zq4,zq5,Is,and_true] at hD;simp only[jF,Act.put,zq,Is] at hK⊢;simp only[hD] at hK⊢;clear hD;refine jN ?_;go_simp;exact hK _ _ _ rfl (jC.refl _) (ql (Value.int _) (w8_lem k hk8))
   ·intro y w2 hG hD K hK;simp only[kC,zq4,zq5,Is,and_true] at hD;simp only[jF,Act.put,zq,Is] at hK⊢;simp only[hD] at hK⊢;clear hD;refine jN ?_;go_simp;exact hK _ _ _ rfl (jC.refl _) (ql (Value.int _) (shl_lem b.toNat k hk8 hb))
   ·intro y w2 hG hD K hK;simp only[kC,zq4,zq5,Is,and_true] at hD;simp only[jF,Act.put,zq,Is] at hK⊢;simp only[hD] at hK⊢;clear hD;refine jN ?_;go_simp;exact hK _ _ _ rfl (jC.refl _) (ql (Value.int _) (or_lem u b.toNat k hk8 hlo hhi hb))
   intro y w2 hG hF K hK;simp only[zV,Is,and_true,Nat.reduceAdd] at hF;simp only[JS];simp only[jF,Act.put,zq,Is] at hK⊢;simp only[hF];clear hF;refine jN ?_;have dg0:=hG.cell g0;have hr2:=hG.heap KP.out;have df0:=jE hr2 0;go_simp;refine hK _ _ ?_;have HR2:=zh hr2;have HG2:=zh hG;clear hr2 hG dg0 df0;go_wp2;go_roundw
   case rel=>
    refine⟨k+1,by omega,by go_num,?_⟩;show _∧_;rw[HSN];exact⟨by have:=heap_setCell_same w2 pa 0 _ _ (.int .u64 (u+b.toNat*256 ^ k)) HR2.out;simpa using this,Moved.setCell (p:=⟨pa,0,none⟩) (HW.2.trans' (Moved.of_grew HG2.out)) (λ_=>rfl) _⟩
   case measure=>simp[intOf];omega
  have e:k=l.length:=by omega
  have hw:=HW.out;rw[e,qn] at hw;have HF:=zh hw;clear hw HW;go_wp2;go_ret;exact⟨rfl,HF.out⟩
theorem EH {p:Nat} {cs:Array Value} {t:TypeId} (h:w.heap[p]? = some (.cells cs t (0,0))) (k:Nat) (v:Value) (hv:cs[k]? = some v):w.cell? ⟨p,k,none⟩=some v:=by
 simp[World.cell?,h,hv]
def k7 (l:List UInt8) (at_ x:Int):Int × Int:=if isW x=true then (if at_ < 0∨at_ > l.length - x then (0,6) else (leF ((l.drop at_.toNat).take x.toNat),0)) else (0,2)
theorem oT {bl off:Nat} {c:Nat} (hb:zK w (.slice (some ⟨bl,off,none⟩) l.length c) l) (k x c2:Nat) (h:k+x≤l.length) (hc:x≤c2):zK w (.slice (some ⟨bl,off+k,none⟩) x c2) ((l.drop k).take x):=by
 obtain⟨a,c',e,_,_,h4⟩:=hb;cases e;refine⟨some ⟨bl,off+k,none⟩,c2,by simp;omega,by simp;omega,λh=>gN,λi b hi=>?_⟩;rw[List.getElem?_take] at hi;split at hi
 ·rw[List.getElem?_drop] at hi;obtain⟨bl',off',e,kM⟩:=h4 (k+i) b hi;cases e;exact⟨bl,off+k,rfl,by rw[Nat.add_assoc];exact kM⟩
 cases hi
theorem uL (sv:Value) (l:List UInt8) (hb:zK w sv l) (kE:l.length≤1073741824) (at_ x:Int) (ha:kY at_) (pa:Nat) (hp:w.heap[pa]? = some (.cells #[.int .u64 0] 22)) (hap:∀ad n c,sv=.slice (some ad) n c→ad.block≠pa) :
 Calls prog 248 #[sv,.int .i64 at_,.int .i64 x,fnvD 249 #[.pointer (some ⟨pa,0,none⟩)]] w λr w'=>r=.returned (.int .i64 (k7 l at_ x).2)∧w'.heap[pa]? = some (.cells #[.int .u64 (k7 l at_ x).1] 22)∧Moved (λb=>b=pa) w w':=by
 have HB0:=zh hb;have HA:=zh hap;have HP:=zh hp;obtain⟨a,c,rfl,kM⟩:=hb;have hc:=kM.1;have HC:=zh kM.2.2;clear hap kM hp;unfold k7;by_cases hx:isW x=true
 ·rw[zl hx];have HX:=zh hx;by_cases hr:at_ < 0∨at_ > l.length - x
  ·rw[zl hr];have hx1:1≤x∧x≤8:=by rcases yL hx with rfl | rfl | rfl | rfl<;>omega
   go_enter func248,ntmps248;go_wp2_with fail;refine (aB x _).mono ?_;rw[HX];rintro r w1 ⟨rfl,rfl⟩;by_cases h0:at_ < 0
   ·go_wp2;go_ret;exact⟨rfl,HP.out,Moved.refl _ _⟩
   have h1:(l.length:Int) - x < at_:=(by omega);go_wp2;go_ret;exact⟨rfl,HP.out,Moved.refl _ _⟩
  rw[ze hr];have hx1:1≤x∧x≤8:=by rcases yL hx with rfl | rfl | rfl | rfl<;>omega
  obtain⟨k,rfl⟩:=Int.eq_ofNat_of_zero_le (show 0≤at_ by omega);obtain⟨y,rfl⟩:=Int.eq_ofNat_of_zero_le (show 0≤x by omega);have hky:k+y≤l.length:=by omega
  obtain⟨bl,off,rfl,_⟩:=HC.out 0 l[0] (za zo);go_enter func248,ntmps248;go_wp2_with fail;refine (aB y _).mono ?_;rw[HX];rintro r w1 ⟨rfl,rfl⟩;go_wp2_with fail;refine (EG _ ((l.drop k).take y) (oT HB0.out k y (c - k) hky zo) zp6 pa HP.out (λad n c' e=>by cases e;exact HA.out ⟨bl,off,none⟩ _ _ rfl)).mono ?_;rintro r w2 ⟨rfl,jK,hm⟩;have HR:=zh jK;have HM:=zh hm;clear jK hm;go_wp2;go_ret;exact⟨rfl,by simpa using HR.out,HM.out⟩
 rw[ze hx];have HX:=zh (show isW x=false by simpa using hx);clear hx;go_enter func248,ntmps248;go_wp2_with fail;refine (aB x _).mono ?_;rw[HX];rintro r w1 ⟨rfl,rfl⟩;go_wp2;go_ret;exact⟨rfl,HP.out,Moved.refl _ _⟩
theorem QT (sv:Value) (l:List UInt8) (hb:zK w sv l) (kE:l.length≤1073741824) (at_ x:Int) (ha:kY at_) (hap:∀ad n c,sv=.slice (some ad) n c→ad.block < w.heap.size) :
 Calls prog 216 #[sv,.int .i64 at_,.int .i64 x] w λr w'=>r=.returned (.tuple #[.int .u64 (k7 l at_ x).1,.int .i64 (k7 l at_ x).2])∧jC w w':=by
 have HB0:=zh hb;have HA:=zh hap;have hmf:∀(fn:Fn) (first cap:Array Value) (w:World),(Instr.makeFunc fn first cap).run prog w=.ok (.func fn first cap) w:=λ_ _ _ _=>rfl;obtain⟨a,c,rfl,kM⟩:=hb;clear hap kM;go_enter func216,ntmps216;go_wp2_with fail;refine (uL _ l (HB0.grew ((jC.refl w).alloc _)) kE at_ x ha w.heap.size (qc _ _) (λad n c' e=>by have:=HA.out ad n c' e;omega)).mono ?_;rintro r w2 ⟨rfl,jK,hm⟩;have g0:w2.cell? ⟨w.heap.size,0,none⟩=some (.int .u64 (k7 l at_ x).1):=EH jK 0 _ rfl;have f0:=jE jK 0;have HM:=zh hm;clear jK hm;obtain⟨q,hq⟩:∃q,q=k7 l at_ x:=⟨_,rfl⟩;rw[← hq] at g0⊢;have hm2:Moved (λb=>b=w.heap.size) w w2:=((Moved.refl _ w).alloc _).trans HM.out (λ_ _ h=>h);have HG:Hid (jC w w2):=hm2.below (zr _) (λk e=>by omega);clear hm2;go_wp2;refine bodyPost_ret (v:=.tuple #[.int .u64 q.1,.int .i64 q.2]) ?_ rfl ⟨by rw[hq],?_⟩
 ·simp[results,results216,go_sem,g0,hq]
 exact HG.setCell (zr _) _
theorem uM {at_:Int} (h:(k7 l at_ x).2=0):isW x=true∧0≤(k7 l at_ x).1∧(k7 l at_ x).1 < 256 ^ x.toNat:=by
 revert h
 unfold k7;split
 ·rename_i hx;split
  ·simp
  intro _;refine⟨hx,BC _,?_⟩;refine Int.lt_of_lt_of_le (BD _) ?_;have h1:((l.drop at_.toNat).take x.toNat).length≤x.toNat:=by simp;omega
  have h2:=Nat.pow_le_pow_right (n:=256) zd h1;have:((256 ^ ((l.drop at_.toNat).take x.toNat).length:Nat):Int)≤((256 ^ x.toNat:Nat):Int):=Int.ofNat_le.2 h2;simpa using this
 simp
def sgnF (u x:Int):Int:=if u < 2 ^ (8*x.toNat - 1) then u else u - 2 ^ (8*x.toNat)
def JG (l:List UInt8) (at_ x:Int):Int × Int:=if (k7 l at_ x).2=0 then (sgnF (k7 l at_ x).1 x,0) else (0,(k7 l at_ x).2)
theorem sF (sv:Value) (l:List UInt8) (hb:zK w sv l) (kE:l.length≤1073741824) (at_ x:Int) (ha:kY at_) (hap:∀ad n c,sv=.slice (some ad) n c→ad.block < w.heap.size) :
 Calls prog 262 #[sv,.int .i64 at_,.int .i64 x] w λr w'=>r=.returned (.tuple #[.int .i64 (JG l at_ x).1,.int .i64 (JG l at_ x).2])∧jC w w':=by
 have HL:Hid (Calls prog 216 #[sv,.int .i64 at_,.int .i64 x] w λr w'=>r=.returned (.tuple #[.int .u64 (k7 l at_ x).1,.int .i64 (k7 l at_ x).2])∧jC w w'):=QT sv l hb kE at_ x ha hap;have hok:=uM (l:=l) (at_:=at_) (x:=x);unfold JG;clear hb hap;generalize k7 l at_ x=q at *;obtain⟨u,e⟩:=q;simp only at hok⊢;by_cases he:e=0
 ·subst he;obtain⟨hx,u0,u1⟩:=hok rfl;simp only[if_true];rcases yL hx with rfl|rfl|rfl|rfl
  all_goals
   simp at u1;clear hx;go_enter func262,ntmps262;go_wp2_with fail;refine HL.mono ?_;rintro r w2 ⟨rfl,hg⟩;have HG:=zh hg;clear hg;go_wp2
   go_ret2
   refine⟨?_,HG.out⟩;congr 2;simp[sgnF,IntKind.wrap,IntKind.bits,IntKind.signed];unfold wrap64;split<;>omega
 rw[ze he];go_enter func262,ntmps262;go_wp2_with fail;refine HL.mono ?_;rintro r w2 ⟨rfl,hg⟩;have HG:=zh hg;clear hg;go_wp2
 go_ret2
 exact⟨rfl,HG.out⟩
end Go.Proofs.YtdjoffgkndncfaaGreat
