/-Texts-/
import Derived.Test.YtdjoffgkndncfaaGreatDOtherPAE
import Derived.Shelf.Abstract
set_option linter.unusedVariables false
set_option linter.unusedSimpArgs false
namespace Go.Proofs.YtdjoffgkndncfaaGreat
open Go.Proofs.Tryz
open Go Go.ChangeShapes Go.WideShapes Go.ChangeAt Go.RowKit Go.Joins
variable {B p:Nat} {w:World} {o:Option Nat} {jB:Int}
theorem KA (x u:Int) (w:World) (hx:isW x=true) (h0:0≤u) (h1:u≤18446744073709551615) :
 Calls prog 203 #[.int .i64 x,.int .u64 u] w λr w'=>r=.returned (.bool (fB x u))∧w'=w:=by
 rcases zW hx with rfl|rfl|rfl|rfl
 all_goals clear hx
 all_goals
  go_enter func203,ntmps203;go_wp2;go_ret;refine⟨kP ?_,rfl⟩
  first
   | (show (true:Bool)=_
      unfold fB
      exact (qt zp6).symm)
   | (show (_ == _)=_
      unfold fB;rw[Bool.eq_iff_iff,xw,decide_eq_true_iff];simp only[Int.reduceToNat,Nat.reduceMul,Int.reducePow]
      omega)
theorem pN (a b:Addr) (x u:Int) (w:World) (ca:w.cell? a=some (.int .i64 x)) (cb:w.cell? b=some (.int .u64 u)) (hx:isW x=true) (h0:0≤u) (h1:u≤18446744073709551615) :
 Calls prog 202 #[.pointer (some a),.pointer (some b)] w λr w'=>r=.returned (.bool (fB x u))∧w'=w:=by
 have HX:=zh hx;clear hx;go_enter func202,ntmps202;go_wp2_with fail;refine (KA x u _ HX.out h0 h1).mono ?_;rintro r w' ⟨rfl,rfl⟩;go_wp2;go_ret;exact⟨rfl,rfl⟩
theorem E9 (w:World):Calls prog 57 #[.slice none 0 0] w λr w'=>r=.returned (.slice none 0 0)∧w'=w:=by
 have hq:=λW=>Lib.run_eql_slice_nil_nil (P:=prog) W 0 0 underlying28;go_enter func57,ntmps57;go_wp2;go_ret;exact⟨rfl,rfl⟩
theorem BY (n k U:Nat) (hk:k < n):(Lib.byteCells (k8 k U++kD (n - k))).set k (.int .u8 ((U:Int) / 2 ^ (8*k) % 256))=Lib.byteCells (k8 (k+1) U++kD (n - (k+1))):=by
 have hv:((UInt8.ofNat (U / 256 ^ k % 256)).toNat:Int)=(U:Int) / 2 ^ (8*k) % 256:=by
  rw[UInt8.toNat_ofNat'];have:(2:Nat) ^ 8=256:=rfl;rw[this]
  have h2:((2:Int) ^ (8*k))=((256 ^ k:Nat):Int):=by
   rw[Int.pow_mul];simp
  rw[h2,← Int.natCast_ediv];omega
 have e:k8 (k+1) U=k8 k U++[UInt8.ofNat (U / 256 ^ k % 256)]:=by simp[k8,List.range_succ]
 have ez:kD (n - k)=0::kD (n - (k+1)):=by
  obtain⟨m,hm⟩:∃m,n - k=m+1:=⟨n - k - 1,by omega⟩;rw[hm,show n - (k+1)=m by omega];rfl
 rw[e,ez];unfold Lib.byteCells;rw[xb,List.set_append_right _ _ (by simp[k8])];simp only[k8,qb,List.length_range,yj,List.map_cons,zq2,xb,List.map_nil,qe,qz,xm,hv]
theorem BZ (g n c:Nat) (u:Int) (w:World) (h0:0≤u) (h1:u≤18446744073709551615) (hn:n≤8) (B:Nat) (j5:w.ownsRow B 5 1 (.slice (some ⟨g,0,none⟩) n c) n (Lib.byteCells (kD n))) :
 Calls prog 242 #[.slice (some ⟨g,0,none⟩) n c,.int .u64 u] w λr w'=>r=.returned (.tuple #[])∧w'.ownsRow B 5 1 (.slice (some ⟨g,0,none⟩) n c) n (Lib.byteCells (k8 n u.toNat))∧Moved (λk=>k=g) w w':=by
 have HO:=zh j5;clear j5;obtain⟨U,rfl⟩:=Int.eq_ofNat_of_zero_le h0;go_enter func242,ntmps242;go_wp2_with fail
 go_loopw [4,7] (λ_ i wr=>∃k:Nat,k≤n∧i=.int .i64 k∧Hid (wr.ownsRow B 5 1 (.slice (some ⟨g,0,none⟩) n c) n (Lib.byteCells (k8 k U++kD (n - k)))∧Moved (λk=>k=g) w wr)) (λ_ i _=>n - (intOf i).toNat)
 case atStart=>exact⟨0,Nat.zero_le _,rfl,HO.out,Moved.refl _ _⟩
 case round=>
  obtain⟨k,hk,rfl,HW⟩:=hrel;by_cases hlt:k < n
  ·obtain⟨z,hc⟩:∃z,wr.cell? ⟨g,k,none⟩=some z:=by
    rw[World.ownsRow.cellAt HW.1 k zo];exact⟨_,za (by simp[Lib.byteCells,k8,kD];omega)⟩
   have hf:wr.frozen? ⟨g,k,none⟩=false:=HW.1.frozenAt k
   have HN:Hid ((wr.setCell ⟨g,k,none⟩ (.int .u8 ((U:Int) / 2 ^ (8*k) % 256))).ownsRow B 5 1 (.slice (some ⟨g,0,none⟩) n c) n (Lib.byteCells (k8 (k+1) U++kD (n - (k+1))))∧Moved (λk=>k=g) w (wr.setCell ⟨g,k,none⟩ (.int .u8 ((U:Int) / 2 ^ (8*k) % 256)))):=by
    have h2:=HW.1.stored k (.int .u8 ((U:Int) / 2 ^ (8*k) % 256));rw[BY n k U hlt] at h2;exact⟨h2.1,HW.2.trans' (zZ wr g k _)⟩
   clear HW;go_wp2;go_roundw
   case rel=>exact⟨k+1,by omega,by go_num,HN⟩
   case measure=>simp[intOf];omega
  have e:k=n:=by omega
  subst e;go_wp2;go_end0;refine⟨rfl,?_,HW.2⟩;have:=HW.1;simpa [kD] using this
theorem sV (w:World) (n:Nat) (h0:0 < n) (hn:n≤1099511627776) (ty:TypeId) :
 ∃c w3,(Builtin.append_ #[28,3] ty #[.slice none 0 0,.int .i64 n]).run prog w=.ok (.slice (some ⟨w.heap.size,0,none⟩) n c) w3∧w3.ownsRow w.heap.size 5 1 (.slice (some ⟨w.heap.size,0,none⟩) n c) n (Lib.byteCells (kD n))∧jC w w3:=by
 obtain⟨i0,hi,hz0,hz1,hz2⟩:=cI;have hr:=Lib.run_append_nil_zeros (P:=prog) w 28 3 ty 5 i0 (.int .u8 0) .i64 .i64 underlying28 underlying3 hi hz0 n h0 zo zo (by rw[hz2];omega);refine⟨_,_,hr,?_,((jC.refl w).drew).alloc _⟩;have hge:=grownCap_ge w n 0 5;have hle:=grownCap_le_maxLen w n 0 5 gM;refine⟨by simp[Lib.byteCells,kD],.inr ⟨w.heap.size,_,_,rfl,zr _,qc w.drew _,hge,hle,by simp[Builtin.zeroCells,Value.cells];omega,?_⟩⟩;rw[Array.toList_append,yd (by simp[Builtin.zeroCells,Value.cells])];rw[List.take_of_length_le (by simp[Builtin.zeroCells,Value.cells])];apply List.ext_getElem?;intro j;by_cases hj:j < n
 ·simp[Builtin.zeroCells,Value.cells,Lib.byteCells,kD,hj,Nat.mod_one]
 simp[Builtin.zeroCells,Value.cells,Lib.byteCells,kD,hj]
theorem sW (x u:Int) (a b:Addr) (w:World) (hx:isW x=true) (hf:fB x u=false) (ca:w.cell? a=some (.int .i64 x)) (cb:w.cell? b=some (.int .u64 u)) (h0:0≤u) (h1:u≤18446744073709551615) :
 Calls prog 201 #[.slice none 0 0,.int .i64 x,.int .u64 u,.func (.func 202) #[] #[.pointer (some a),.pointer (some b)]] w λr w'=>r=.returned (.tuple #[.slice none 0 0,.int .i64 10])∧w'=w:=by
 have HX:=zh hx;have HF:=zh hf;clear hx hf;have he:∀args w,(callFunc 202 args).run prog w=.ok (.enter 202 args) w:=enters_of func202 zk rfl;go_enter func201,ntmps201;go_wp2_with fail;refine (aB x _).mono ?_;rw[HX];rintro r w' ⟨rfl,rfl⟩;go_wp2_with fail;refine (pN a b x u _ ca cb HX.out h0 h1).mono ?_;rw[HF];rintro r w' ⟨rfl,rfl⟩;go_wp2
 go_ret2
 exact⟨rfl,rfl⟩
theorem FA (x u:Int) (a b:Addr) (w:World) (hx:isW x=true) (hf:fB x u=true) (ca:w.cell? a=some (.int .i64 x)) (cb:w.cell? b=some (.int .u64 u)) (h0:0≤u) (h1:u≤18446744073709551615) :
 Calls prog 201 #[.slice none 0 0,.int .i64 x,.int .u64 u,.func (.func 202) #[] #[.pointer (some a),.pointer (some b)]] w λr w'=>∃v',r=.returned (.tuple #[v',.int .i64 0])∧w'.ownsRow w.heap.size 5 1 v' x.toNat (Lib.byteCells (k8 x.toNat u.toNat))∧jC w w':=by
 have HX:=zh hx;have HF:=zh hf;have x0:0 < x∧x≤8:=by rcases zW hx with rfl | rfl | rfl | rfl<;>omega
 obtain⟨x0,x1⟩:=x0;clear hx hf;obtain⟨n,rfl⟩:=Int.eq_ofNat_of_zero_le (show 0≤x by omega);have hn0:0 < n:=by omega
 have hn8:n≤8:=by omega
 obtain⟨c,w3,hr,j5,hg⟩:=sV w n hn0 zo 28;have HR:=zh hr;have HO:=zh j5;have HG:=zh hg
 have hcn:(n:Int)≤c:=by
  obtain⟨_,h2⟩:=j5;rcases h2 with ⟨h2,_⟩|⟨g,cap,cur,h2,_,_,h3,_⟩
  ·cases h2
  injection h2 with _ _ h4;omega
 clear hr j5 hg;have he:∀args w,(callFunc 202 args).run prog w=.ok (.enter 202 args) w:=enters_of func202 zk rfl;go_enter func201,ntmps201;go_wp2_with fail;refine (aB (n:Int) _).mono ?_;rw[HX];rintro r w' ⟨rfl,rfl⟩;go_wp2_with fail;refine (pN a b (n:Int) u _ ca cb HX.out h0 h1).mono ?_;rw[HF];rintro r w' ⟨rfl,rfl⟩;go_wp2_with fail;refine (E9 _).mono ?_;rintro r w' ⟨rfl,rfl⟩;go_wp2_with (at_builtin;refine Lib.wpList_append_run _ rfl _ _ 28 3 rfl _ _ rfl rfl _ _ HR.out ?_);refine (BZ _ n c u w3 h0 h1 hn8 w'.heap.size HO.out).mono ?_;rintro r w4 ⟨rfl,ho,hm⟩;have HE:=zh (qa ho hm);clear ho hm;go_wp2
 go_ret2
 refine⟨_,rfl,HE.1,?_⟩;have h5:=(Moved.of_grew (S:=λk=>k=w'.heap.size) HG.out).trans' HE.2;exact h5.below (zr _) (λk hk=>by omega)
theorem lput_ok (x u:Int) (w:World) (hx:isW x=true) (hf:fB x u=true) (h0:0≤u) (h1:u≤18446744073709551615) :
 Calls prog 162 #[.slice none 0 0,.int .i64 x,.int .u64 u] w λr w'=>∃v',r=.returned (.tuple #[v',.int .i64 0])∧zK w' v' (k8 x.toNat u.toNat)∧jC w w':=by
 have HX:=zh hx;have HF:=zh hf;clear hx hf;go_enter func162,ntmps162;go_wp2_with fail;refine (FA x u _ _ _ HX.out HF.out zp3 zp3 h0 h1).mono ?_;rintro r w4 ⟨v',rfl,ho,hg⟩;have HE:=zh (qa ho hg);clear ho hg;go_wp2
 go_ret2
 refine⟨_,rfl,?_,(((jC.refl w).alloc _).alloc _).trans HE.2⟩;have h5:=HE.1;have e:x.toNat=(k8 x.toNat u.toNat).length:=(kF _ _).symm;exact zK.of_own (by rw[← e];exact h5)
theorem B0 (x u:Int) (w:World) (hx:isW x=true) (hf:fB x u=false) (h0:0≤u) (h1:u≤18446744073709551615) :
 Calls prog 162 #[.slice none 0 0,.int .i64 x,.int .u64 u] w λr w'=>r=.returned (.tuple #[.slice none 0 0,.int .i64 10])∧jC w w':=by
 have HX:=zh hx;have HF:=zh hf;clear hx hf;go_enter func162,ntmps162;go_wp2_with fail;refine (sW x u _ _ _ HX.out HF.out zp3 zp3 h0 h1).mono ?_;rintro r w4 ⟨rfl,rfl⟩;go_wp2
 go_ret2
 exact⟨rfl,((jC.refl w).alloc _).alloc _⟩
theorem LQ (s:St) (x u:Int) (a b c:Addr) (ca:w.cell? a=some (.int .i64 x)) (cb:w.cell? b=some (.int .u64 u)) (cc:w.cell? c=some (jI p))
 (h:yA B w p o s.1 jB s.2) (hB:B≤w.heap.size) (hl:(s.1.length:Int)≤jB) (hm1:jB≤1048576) (hx:isW x=true) (h0:0≤u) (h1:u≤18446744073709551615) :
 Calls prog 161 #[.pointer (some a),.pointer (some b),.pointer (some c)] w λr w'=>r=.returned (.tuple #[])∧kO B w w' p o jB (j9 jB x u s):=by
 have HB:=zh h;have HX:=zh hx;have hx8:x.toNat≤8:=by rcases zW hx with rfl | rfl | rfl | rfl<;>decide
 have HX8:=zh hx8;clear h hx hx8;go_enter func161,ntmps161;by_cases hf:fB x u=true
 ·have HS:Hid (j9 jB x u s=kQ jB (k8 x.toNat u.toNat) s):=by show _=_;rw[j9,zl HX.out,zl hf]
  have HF:=zh hf;clear hf;go_wp2_with fail;refine (lput_ok x u _ HX.out HF.out h0 h1).mono ?_;rintro r w4 ⟨v',rfl,hv,hg⟩;have cc4:=hg.cell cc;have hs:=hg.size;have HE:=zh (qa hv hg);clear hv hg ca cb cc;go_wp2_with fail;refine (putT s (HB.grew HE.2) zo hl hm1 HE.1 (by rw[kF];have:=HX8.out;omega)).mono ?_;rintro r w5 ⟨rfl,ht⟩;have HT:=zh ht;clear ht;go_wp2;go_end0;exact⟨rfl,by rw[HS];exact HT.after HE.2⟩
 have HS:Hid (j9 jB x u s=bZ 10 s):=by show _=_;rw[j9,zl HX.out,ze hf]
 have HF:=zh (show fB x u=false by simpa using hf);clear hf;go_wp2_with fail;refine (B0 x u _ HX.out HF.out h0 h1).mono ?_;rintro r w4 ⟨rfl,hg⟩;have cc4:=hg.cell cc;have HE:=zh hg;clear hg ca cb cc;go_wp2_with fail;refine (failT s 10 (HB.grew HE.out)).mono ?_;rintro r w5 ⟨rfl,ht⟩;have HT:=zh ht;clear ht;go_wp2;refine bodyPost_ret (results_none rfl _ _ _) rfl ?_;exact⟨rfl,by rw[HS];exact HT.after HE.out⟩
theorem JF (s:St) (x u:Int) (h:yA B w p o s.1 jB s.2) (hB:B≤w.heap.size) (hl:(s.1.length:Int)≤jB) (hm1:jB≤1048576) (h0:0≤u) (h1:u≤18446744073709551615) :
 Calls prog 103 #[jI p,.int .i64 x,.int .u64 u] w λr w'=>r=.returned (.tuple #[])∧kO B w w' p o jB (j9 jB x u s):=by
 have HB:=zh h;clear h;go_enter func103,ntmps103;go_wp2_with fail;have G:jC w (((w.alloc (.cells #[jI p] 100)).alloc (.cells #[.int .i64 x] 3)).alloc (.cells #[.int .u64 u] 22)):=(((jC.refl w).alloc _).alloc _).alloc _;refine (uI s x _ _ (HB.grew G) (j9 jB x u s) (λhx=>by rw[j9,ze oL]) (λ_=>enters_of func161 zk rfl _ _) (λhx=>LQ s x u _ _ _ zp3 zp3 zp3 (HB.grew G) (zf hB G.size) hl hm1 hx h0 h1)).mono ?_;rintro r w5 ⟨rfl,ht⟩;have HT:=zh (kO.after G ht);clear ht G;go_wp2;go_end0;exact⟨rfl,HT.out⟩
end Go.Proofs.YtdjoffgkndncfaaGreat
