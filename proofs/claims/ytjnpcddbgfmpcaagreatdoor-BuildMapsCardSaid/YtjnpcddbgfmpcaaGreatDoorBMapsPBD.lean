/-
  Texts of the proof.
-/
import Derived.Test.YtjnpcddbgfmpcaaGreatDoorBMapsPAF
import Derived.Shelf.Abstract
set_option linter.unusedVariables false
set_option linter.unusedSimpArgs false
namespace Go.Proofs.YtjnpcddbgfmpcaaGreatDoor
open Go.Proofs.Tryz
open Go Go.ChangeShapes Go.WideShapes Go.ChangeAt Go.RowKit Go.Joins
theorem y9 (x u:Int) (w:World) (hx:isW x=true) (h0:0≤u) (h1:u≤18446744073709551615) :
 Calls prog 130 #[.int .i64 x,.int .u64 u] w fun r w'=>r=.returned (.bool (VA x u))∧w'=w:=by
 rcases kJ hx with rfl|rfl|rfl|rfl
 all_goals clear hx
 all_goals
  go_enter func130,ntmps130
  go_wp2
  go_ret
  refine⟨ZI ?_,rfl⟩
  first
   | (show (true:Bool)=_
      unfold VA
      exact (decide_eq_true (by simp;omega)).symm)
   | (show (_ == _)=_
      unfold VA
      rw[Bool.eq_iff_iff,beq_iff_eq,decide_eq_true_iff]
      simp only[Int.reduceToNat,Nat.reduceMul,Int.reducePow]
      omega)
theorem dV (a b:Addr) (x u:Int) (w:World) (ca:w.cell? a=some (.int .i64 x)) (cb:w.cell? b=some (.int .u64 u)) (hx:isW x=true) (h0:0≤u) (h1:u≤18446744073709551615) :
 Calls prog 129 #[.pointer (some a),.pointer (some b)] w fun r w'=>r=.returned (.bool (VA x u))∧w'=w:=by
 have HX:=zh hx
 clear hx
 go_enter func129,ntmps129
 go_wp2_with fail
 refine (y9 x u _ HX.out h0 h1).mono ?_
 rintro r w' ⟨rfl,rfl⟩
 go_wp2
 go_ret
 exact⟨rfl,rfl⟩
theorem oY (w:World):Calls prog 101 #[.slice none 0 0] w fun r w'=>r=.returned (.slice none 0 0)∧w'=w:=by
 have hq:=fun W=>Lib.run_eql_slice_nil_nil (P:=prog) W 0 0 underlying31
 go_enter func101,ntmps101
 go_wp2
 go_ret
 exact⟨rfl,rfl⟩
theorem mG (n k U:Nat) (hk:k < n):(Lib.byteCells (kH k U++j6 (n - k))).set k (.int .u8 ((U:Int) / 2 ^ (8*k) % 256))=Lib.byteCells (kH (k+1) U++j6 (n - (k+1))):=by
 have hv:((UInt8.ofNat (U / 256 ^ k % 256)).toNat:Int)=(U:Int) / 2 ^ (8*k) % 256:=by
  rw[UInt8.toNat_ofNat']
  have:(2:Nat) ^ 8=256:=rfl
  rw[this]
  have h2:((2:Int) ^ (8*k))=((256 ^ k:Nat):Int):=by
   rw[Int.pow_mul];simp
  rw[h2,← Int.natCast_ediv]
  omega
 have e:kH (k+1) U=kH k U++[UInt8.ofNat (U / 256 ^ k % 256)]:=by simp[kH,List.range_succ]
 have ez:j6 (n - k)=0::j6 (n - (k+1)):=by
  obtain⟨m,hm⟩:∃m,n - k=m+1:=⟨n - k - 1,by omega⟩
  rw[hm,show n - (k+1)=m by omega];rfl
 rw[e,ez]
 unfold Lib.byteCells
 rw[List.map_append,List.set_append_right _ _ (by simp[kH])]
 simp only[kH,List.length_map,List.length_range,Nat.sub_self,List.map_cons,zq2,List.map_append,List.map_nil,List.append_assoc,List.cons_append,List.nil_append,hv]
theorem mH (g n c:Nat) (u:Int) (w:World) (h0:0≤u) (h1:u≤18446744073709551615) (hn:n≤8) (B:Nat) (j3:w.ownsRow B 5 1 (.slice (some ⟨g,0,none⟩) n c) n (Lib.byteCells (j6 n))) :
 Calls prog 174 #[.slice (some ⟨g,0,none⟩) n c,.int .u64 u] w fun r w'=>r=.returned (.tuple #[])∧w'.ownsRow B 5 1 (.slice (some ⟨g,0,none⟩) n c) n (Lib.byteCells (kH n u.toNat))∧Moved (fun k=>k=g) w w':=by
 have HO:=zh j3
 clear j3
 obtain⟨U,rfl⟩:=Int.eq_ofNat_of_zero_le h0
 go_enter func174,ntmps174
 go_wp2_with fail
 go_loopw [4,7] (fun _ i wr=>∃k:Nat,k≤n∧i=.int .i64 k∧Hid (wr.ownsRow B 5 1 (.slice (some ⟨g,0,none⟩) n c) n (Lib.byteCells (kH k U++j6 (n - k)))∧Moved (fun k=>k=g) w wr)) (fun _ i _=>n - (intOf i).toNat)
 case atStart=>exact⟨0,Nat.zero_le _,rfl,HO.out,Moved.refl _ _⟩
 case round=>
  obtain⟨k,hk,rfl,HW⟩:=hrel
  by_cases hlt:k < n
  ·obtain⟨z,hc⟩:∃z,wr.cell? ⟨g,k,none⟩=some z:=by
    rw[World.ownsRow.cellAt HW.out.1 k (by omega)]
    exact⟨_,List.getElem?_eq_getElem (by simp[Lib.byteCells,kH,j6];omega)⟩
   have hf:wr.frozen? ⟨g,k,none⟩=false:=HW.out.1.frozenAt k
   have HN:Hid ((wr.setCell ⟨g,k,none⟩ (.int .u8 ((U:Int) / 2 ^ (8*k) % 256))).ownsRow B 5 1 (.slice (some ⟨g,0,none⟩) n c) n (Lib.byteCells (kH (k+1) U++j6 (n - (k+1))))∧Moved (fun k=>k=g) w (wr.setCell ⟨g,k,none⟩ (.int .u8 ((U:Int) / 2 ^ (8*k) % 256)))):=by
    have h2:=HW.out.1.stored k (.int .u8 ((U:Int) / 2 ^ (8*k) % 256))
    rw[mG n k U hlt] at h2
    exact⟨h2.1,HW.out.2.trans' (zK wr g k _)⟩
   clear HW
   go_wp2
   go_roundw
   case rel=>exact⟨k+1,by omega,by go_num,HN⟩
   case measure=>simp[intOf];omega
  ·have e:k=n:=by omega
   subst e
   go_wp2
   go_end0
   refine⟨rfl,?_,HW.out.2⟩
   have:=HW.out.1
   simpa [j6] using this
theorem fM (w:World) (n:Nat) (h0:0 < n) (hn:n≤1099511627776) (ty:TypeId) :
 ∃c w3,(Builtin.append_ #[31,3] ty #[.slice none 0 0,.int .i64 n]).run prog w=.ok (.slice (some ⟨w.heap.size,0,none⟩) n c) w3∧w3.ownsRow w.heap.size 5 1 (.slice (some ⟨w.heap.size,0,none⟩) n c) n (Lib.byteCells (j6 n))∧jA w w3:=by
 obtain⟨i0,hi,hz0,hz1,hz2⟩:=YV
 have hr:=Lib.run_append_nil_zeros (P:=prog) w 31 3 ty 5 i0 (.int .u8 0) .i64 .i64 underlying31 underlying3 hi hz0 n h0 (by omega) (by omega) (by rw[hz2];omega)
 refine⟨_,_,hr,?_,((jA.refl w).drew).alloc _⟩
 have hge:=grownCap_ge w n 0 5
 have hle:=grownCap_le_maxLen w n 0 5 (by unfold maxLen;omega)
 refine⟨by simp[Lib.byteCells,j6],.inr ⟨w.heap.size,_,_,rfl,Nat.le_refl _,heap_alloc_new w.drew _,hge,hle,by simp[Builtin.zeroCells,Value.cells];omega,?_⟩⟩
 rw[Array.toList_append,List.take_append_of_le_length (by simp[Builtin.zeroCells,Value.cells])]
 rw[List.take_of_length_le (by simp[Builtin.zeroCells,Value.cells])]
 apply List.ext_getElem?
 intro j
 by_cases hj:j < n
 ·simp[Builtin.zeroCells,Value.cells,Lib.byteCells,j6,hj,Nat.mod_one]
 ·simp[Builtin.zeroCells,Value.cells,Lib.byteCells,j6,hj]
theorem fN (x u:Int) (a b:Addr) (w:World) (hx:isW x=true) (hf:VA x u=false) (ca:w.cell? a=some (.int .i64 x)) (cb:w.cell? b=some (.int .u64 u)) (h0:0≤u) (h1:u≤18446744073709551615) :
 Calls prog 128 #[.slice none 0 0,.int .i64 x,.int .u64 u,.func (.func 129) #[] #[.pointer (some a),.pointer (some b)]] w fun r w'=>r=.returned (.tuple #[.slice none 0 0,.int .i64 10])∧w'=w:=by
 have HX:=zh hx
 have HF:=zh hf
 clear hx hf
 have he:∀args w,(callFunc 129 args).run prog w=.ok (.enter 129 args) w:=enters_of func129 zk rfl
 go_enter func128,ntmps128
 go_wp2_with fail
 refine (ZM x _).mono ?_
 rw[HX.out]
 rintro r w' ⟨rfl,rfl⟩
 go_wp2_with fail
 refine (dV a b x u _ ca cb HX.out h0 h1).mono ?_
 rw[HF.out]
 rintro r w' ⟨rfl,rfl⟩
 go_wp2
 go_ret2
 exact⟨rfl,rfl⟩
theorem oZ (x u:Int) (a b:Addr) (w:World) (hx:isW x=true) (hf:VA x u=true) (ca:w.cell? a=some (.int .i64 x)) (cb:w.cell? b=some (.int .u64 u)) (h0:0≤u) (h1:u≤18446744073709551615) :
 Calls prog 128 #[.slice none 0 0,.int .i64 x,.int .u64 u,.func (.func 129) #[] #[.pointer (some a),.pointer (some b)]] w fun r w'=>∃v',r=.returned (.tuple #[v',.int .i64 0])∧w'.ownsRow w.heap.size 5 1 v' x.toNat (Lib.byteCells (kH x.toNat u.toNat))∧jA w w':=by
 have HX:=zh hx
 have HF:=zh hf
 have x0:0 < x∧x≤8:=by rcases kJ hx with rfl | rfl | rfl | rfl<;>omega
 obtain⟨x0,x1⟩:=x0
 clear hx hf
 obtain⟨n,rfl⟩:=Int.eq_ofNat_of_zero_le (show 0≤x by omega)
 have hn0:0 < n:=by omega
 have hn8:n≤8:=by omega
 obtain⟨c,w3,hr,j3,hg⟩:=fM w n hn0 (by omega) 31
 have HR:=zh hr
 have HO:=zh j3
 have HG:=zh hg
 have hcn:(n:Int)≤c:=by
  obtain⟨_,h2⟩:=j3
  rcases h2 with ⟨h2,_⟩|⟨g,cap,cur,h2,_,_,h3,_⟩
  ·cases h2
  ·injection h2 with _ _ h4;omega
 clear hr j3 hg
 have he:∀args w,(callFunc 129 args).run prog w=.ok (.enter 129 args) w:=enters_of func129 zk rfl
 go_enter func128,ntmps128
 go_wp2_with fail
 refine (ZM (n:Int) _).mono ?_
 rw[HX.out]
 rintro r w' ⟨rfl,rfl⟩
 go_wp2_with fail
 refine (dV a b (n:Int) u _ ca cb HX.out h0 h1).mono ?_
 rw[HF.out]
 rintro r w' ⟨rfl,rfl⟩
 go_wp2_with fail
 refine (oY _).mono ?_
 rintro r w' ⟨rfl,rfl⟩
 go_wp2_with (at_builtin;refine Lib.wpList_append_run _ rfl _ _ 31 3 rfl _ _ rfl rfl _ _ HR.out ?_)
 refine (mH _ n c u w3 h0 h1 hn8 w'.heap.size HO.out).mono ?_
 rintro r w4 ⟨rfl,ho,hm⟩
 have HE:=zh (And.intro ho hm)
 clear ho hm
 go_wp2
 go_ret2
 refine⟨_,rfl,HE.out.1,?_⟩
 have h5:=(Moved.of_grew (S:=fun k=>k=w'.heap.size) HG.out).trans' HE.out.2
 exact h5.below (Nat.le_refl _) (fun k hk=>by omega)
theorem lput_ok (x u:Int) (w:World) (hx:isW x=true) (hf:VA x u=true) (h0:0≤u) (h1:u≤18446744073709551615) :
 Calls prog 98 #[.slice none 0 0,.int .i64 x,.int .u64 u] w fun r w'=>∃v',r=.returned (.tuple #[v',.int .i64 0])∧kB w' v' (kH x.toNat u.toNat)∧jA w w':=by
 have HX:=zh hx
 have HF:=zh hf
 clear hx hf
 go_enter func98,ntmps98
 go_wp2_with fail
 refine (oZ x u _ _ _ HX.out HF.out (by go_simp) (by go_simp) h0 h1).mono ?_
 rintro r w4 ⟨v',rfl,ho,hg⟩
 have HE:=zh (And.intro ho hg)
 clear ho hg
 go_wp2
 go_ret2
 refine⟨_,rfl,?_,(((jA.refl w).alloc _).alloc _).trans HE.out.2⟩
 have h5:=HE.out.1
 have e:x.toNat=(kH x.toNat u.toNat).length:=(j9 _ _).symm
 exact kB.of_own (by rw[← e];exact h5)
theorem mI (x u:Int) (w:World) (hx:isW x=true) (hf:VA x u=false) (h0:0≤u) (h1:u≤18446744073709551615) :
 Calls prog 98 #[.slice none 0 0,.int .i64 x,.int .u64 u] w fun r w'=>r=.returned (.tuple #[.slice none 0 0,.int .i64 10])∧jA w w':=by
 have HX:=zh hx
 have HF:=zh hf
 clear hx hf
 go_enter func98,ntmps98
 go_wp2_with fail
 refine (fN x u _ _ _ HX.out HF.out (by go_simp) (by go_simp) h0 h1).mono ?_
 rintro r w4 ⟨rfl,rfl⟩
 go_wp2
 go_ret2
 exact⟨rfl,((jA.refl w).alloc _).alloc _⟩
theorem rU {B:Nat} {w:World} {p:Nat} {o:Option Nat} {most:Int} (s:St) (x u:Int) (a b c:Addr) (ca:w.cell? a=some (.int .i64 x)) (cb:w.cell? b=some (.int .u64 u)) (cc:w.cell? c=some (jF p))
 (h:kU B w p o s.1 most s.2) (hB:B≤w.heap.size) (hl:(s.1.length:Int)≤most) (hm1:most≤1048576) (hx:isW x=true) (h0:0≤u) (h1:u≤18446744073709551615) :
 Calls prog 97 #[.pointer (some a),.pointer (some b),.pointer (some c)] w fun r w'=>r=.returned (.tuple #[])∧jZ B w w' p o most (jW most x u s):=by
 have HB:=zh h
 have HX:=zh hx
 have hx8:x.toNat≤8:=by rcases kJ hx with rfl | rfl | rfl | rfl<;>decide
 have HX8:=zh hx8
 clear h hx hx8
 go_enter func97,ntmps97
 by_cases hf:VA x u=true
 ·have HS:Hid (jW most x u s=kA most (kH x.toNat u.toNat) s):=by show _=_;rw[jW,if_pos HX.out,if_pos hf]
  have HF:=zh hf
  clear hf
  go_wp2_with fail
  refine (lput_ok x u _ HX.out HF.out h0 h1).mono ?_
  rintro r w4 ⟨v',rfl,hv,hg⟩
  have cc4:=hg.cell cc
  have hs:=hg.size
  have HE:=zh (And.intro hv hg)
  clear hv hg ca cb cc
  go_wp2_with fail
  refine (putT s (HB.out.grew HE.out.2) (by omega) hl hm1 HE.out.1 (by rw[j9];have:=HX8.out;omega)).mono ?_
  rintro r w5 ⟨rfl,ht⟩
  have HT:=zh ht
  clear ht
  go_wp2
  go_end0
  exact⟨rfl,by rw[HS.out];exact HT.out.after HE.out.2⟩
 ·have HS:Hid (jW most x u s=YL 10 s):=by show _=_;rw[jW,if_pos HX.out,if_neg hf]
  have HF:=zh (show VA x u=false by simpa using hf)
  clear hf
  go_wp2_with fail
  refine (mI x u _ HX.out HF.out h0 h1).mono ?_
  rintro r w4 ⟨rfl,hg⟩
  have cc4:=hg.cell cc
  have HE:=zh hg
  clear hg ca cb cc
  go_wp2_with fail
  refine (failT s 10 (HB.out.grew HE.out)).mono ?_
  rintro r w5 ⟨rfl,ht⟩
  have HT:=zh ht
  clear ht
  go_wp2
  refine bodyPost_ret (results_none rfl _ _ _) rfl ?_
  exact⟨rfl,by rw[HS.out];exact HT.out.after HE.out⟩
theorem yT {B:Nat} {w:World} {p:Nat} {o:Option Nat} {most:Int} (s:St) (x u:Int) (h:kU B w p o s.1 most s.2) (hB:B≤w.heap.size) (hl:(s.1.length:Int)≤most) (hm1:most≤1048576) (h0:0≤u) (h1:u≤18446744073709551615) :
 Calls prog 51 #[jF p,.int .i64 x,.int .u64 u] w fun r w'=>r=.returned (.tuple #[])∧jZ B w w' p o most (jW most x u s):=by
 have HB:=zh h
 clear h
 go_enter func51,ntmps51
 go_wp2_with fail
 have G:jA w (((w.alloc (.cells #[jF p] 48)).alloc (.cells #[.int .i64 x] 3)).alloc (.cells #[.int .u64 u] 38)):=(((jA.refl w).alloc _).alloc _).alloc _
 refine (gQ s x _ _ (HB.out.grew G) (jW most x u s) (fun hx=>by rw[jW,if_neg (by simp[hx])]) (fun _=>enters_of func97 zk rfl _ _) (fun hx=>rU s x u _ _ _ (by go_simp) (by go_simp) (by go_simp) (HB.out.grew G) (Nat.le_trans hB G.size) hl hm1 hx h0 h1)).mono ?_
 rintro r w5 ⟨rfl,ht⟩
 have HT:=zh (jZ.after G ht)
 clear ht G
 go_wp2
 go_end0
 exact⟨rfl,HT.out⟩
end Go.Proofs.YtjnpcddbgfmpcaaGreatDoor
