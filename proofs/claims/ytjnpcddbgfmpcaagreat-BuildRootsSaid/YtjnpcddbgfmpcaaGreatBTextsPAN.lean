/-
  Texts of the proof.
-/
import Derived.Test.YtjnpcddbgfmpcaaGreatBTextsPAL
import Derived.Shelf.Abstract
set_option linter.unusedVariables false
set_option linter.unusedSimpArgs false
namespace Go.Proofs.YtjnpcddbgfmpcaaGreat
open Go.Proofs.Tryz
open Go Go.ChangeShapes Go.WideShapes Go.ChangeAt Go.RowKit Go.Joins
theorem yT (x u:Int) (w:World) (hx:isW x=true) (h0:0≤u) (h1:u≤18446744073709551615) :
 Calls prog 180 #[.int .i64 x,.int .u64 u] w fun r w'=>r=.returned (.bool (YO x u))∧w'=w:=by
 rcases kC hx with rfl|rfl|rfl|rfl
 all_goals clear hx
 all_goals
  go_enter func180,ntmps180
  go_wp2
  go_ret
  refine⟨JF ?_,rfl⟩
  first
   | (show (true:Bool)=_
      unfold YO
      exact (decide_eq_true (by simp;omega)).symm)
   | (show (_ == _)=_
      unfold YO
      rw[Bool.eq_iff_iff,beq_iff_eq,decide_eq_true_iff]
      simp only[Int.reduceToNat,Nat.reduceMul,Int.reducePow]
      omega)
theorem aJ (a b:Addr) (x u:Int) (w:World) (ca:w.cell? a=some (.int .i64 x)) (cb:w.cell? b=some (.int .u64 u)) (hx:isW x=true) (h0:0≤u) (h1:u≤18446744073709551615) :
 Calls prog 179 #[.pointer (some a),.pointer (some b)] w fun r w'=>r=.returned (.bool (YO x u))∧w'=w:=by
 have HX:=zh hx
 clear hx
 go_enter func179,ntmps179
 go_wp2_with fail
 refine (yT x u _ HX.out h0 h1).mono ?_
 rintro r w' ⟨rfl,rfl⟩
 go_wp2
 go_ret
 exact⟨rfl,rfl⟩
theorem iW (w:World):Calls prog 130 #[.slice none 0 0] w fun r w'=>r=.returned (.slice none 0 0)∧w'=w:=by
 have hq:=fun W=>Lib.run_eql_slice_nil_nil (P:=prog) W 0 0 underlying29
 go_enter func130,ntmps130
 go_wp2
 go_ret
 exact⟨rfl,rfl⟩
theorem fL (n k U:Nat) (hk:k < n):(Lib.byteCells (zH k U++kH (n - k))).set k (.int .u8 ((U:Int) / 2 ^ (8*k) % 256))=Lib.byteCells (zH (k+1) U++kH (n - (k+1))):=by
 have hv:((UInt8.ofNat (U / 256 ^ k % 256)).toNat:Int)=(U:Int) / 2 ^ (8*k) % 256:=by
  rw[UInt8.toNat_ofNat']
  have:(2:Nat) ^ 8=256:=rfl
  rw[this]
  have h2:((2:Int) ^ (8*k))=((256 ^ k:Nat):Int):=by
   rw[Int.pow_mul];simp
  rw[h2,← Int.natCast_ediv]
  omega
 have e:zH (k+1) U=zH k U++[UInt8.ofNat (U / 256 ^ k % 256)]:=by simp[zH,List.range_succ]
 have ez:kH (n - k)=0::kH (n - (k+1)):=by
  obtain⟨m,hm⟩:∃m,n - k=m+1:=⟨n - k - 1,by omega⟩
  rw[hm,show n - (k+1)=m by omega];rfl
 rw[e,ez]
 unfold Lib.byteCells
 rw[List.map_append,List.set_append_right _ _ (by simp[zH])]
 simp only[zH,List.length_map,List.length_range,Nat.sub_self,List.map_cons,zq2,List.map_append,List.map_nil,List.append_assoc,List.cons_append,List.nil_append,hv]
theorem fM (g n c:Nat) (u:Int) (w:World) (h0:0≤u) (h1:u≤18446744073709551615) (hn:n≤8) (B:Nat) (j3:w.ownsRow B 5 1 (.slice (some ⟨g,0,none⟩) n c) n (Lib.byteCells (kH n))) :
 Calls prog 225 #[.slice (some ⟨g,0,none⟩) n c,.int .u64 u] w fun r w'=>r=.returned (.tuple #[])∧w'.ownsRow B 5 1 (.slice (some ⟨g,0,none⟩) n c) n (Lib.byteCells (zH n u.toNat))∧Moved (fun k=>k=g) w w':=by
 have HO:=zh j3
 clear j3
 obtain⟨U,rfl⟩:=Int.eq_ofNat_of_zero_le h0
 go_enter func225,ntmps225
 go_wp2_with fail
 go_loopw [4,7] (fun _ i wr=>∃k:Nat,k≤n∧i=.int .i64 k∧Hid (wr.ownsRow B 5 1 (.slice (some ⟨g,0,none⟩) n c) n (Lib.byteCells (zH k U++kH (n - k)))∧Moved (fun k=>k=g) w wr)) (fun _ i _=>n - (intOf i).toNat)
 case atStart=>exact⟨0,Nat.zero_le _,rfl,HO.out,Moved.refl _ _⟩
 case round=>
  obtain⟨k,hk,rfl,HW⟩:=hrel
  by_cases hlt:k < n
  ·obtain⟨z,hc⟩:∃z,wr.cell? ⟨g,k,none⟩=some z:=by
    rw[World.ownsRow.cellAt HW.out.1 k (by omega)]
    exact⟨_,List.getElem?_eq_getElem (by simp[Lib.byteCells,zH,kH];omega)⟩
   have hf:wr.frozen? ⟨g,k,none⟩=false:=HW.out.1.frozenAt k
   have HN:Hid ((wr.setCell ⟨g,k,none⟩ (.int .u8 ((U:Int) / 2 ^ (8*k) % 256))).ownsRow B 5 1 (.slice (some ⟨g,0,none⟩) n c) n (Lib.byteCells (zH (k+1) U++kH (n - (k+1))))∧Moved (fun k=>k=g) w (wr.setCell ⟨g,k,none⟩ (.int .u8 ((U:Int) / 2 ^ (8*k) % 256)))):=by
    have h2:=HW.out.1.stored k (.int .u8 ((U:Int) / 2 ^ (8*k) % 256))
    rw[fL n k U hlt] at h2
    exact⟨h2.1,HW.out.2.trans' (zF wr g k _)⟩
   clear HW
   go_wp2
   go_roundw
   case rel=>exact⟨k+1,by omega,by go_num,HN⟩
   case measure=>simp[intOf];omega
  ·have e:k=n:=by omega
   subst e
   go_wp2
   go_end0
   refine⟨rfl,?_,HW.out.2⟩
   have:=HW.out.1
   simpa [kH] using this
theorem bY (w:World) (n:Nat) (h0:0 < n) (hn:n≤1099511627776) (ty:TypeId) :
 ∃c w3,(Builtin.append_ #[29,3] ty #[.slice none 0 0,.int .i64 n]).run prog w=.ok (.slice (some ⟨w.heap.size,0,none⟩) n c) w3∧w3.ownsRow w.heap.size 5 1 (.slice (some ⟨w.heap.size,0,none⟩) n c) n (Lib.byteCells (kH n))∧jB w w3:=by
 obtain⟨i0,hi,hz0,hz1,hz2⟩:=ZJ
 have hr:=Lib.run_append_nil_zeros (P:=prog) w 29 3 ty 5 i0 (.int .u8 0) .i64 .i64 underlying29 underlying3 hi hz0 n h0 (by omega) (by omega) (by rw[hz2];omega)
 refine⟨_,_,hr,?_,((jB.refl w).drew).alloc _⟩
 have hge:=grownCap_ge w n 0 5
 have hle:=grownCap_le_maxLen w n 0 5 (by unfold maxLen;omega)
 refine⟨by simp[Lib.byteCells,kH],.inr ⟨w.heap.size,_,_,rfl,Nat.le_refl _,heap_alloc_new w.drew _,hge,hle,by simp[Builtin.zeroCells,Value.cells];omega,?_⟩⟩
 rw[Array.toList_append,List.take_append_of_le_length (by simp[Builtin.zeroCells,Value.cells])]
 rw[List.take_of_length_le (by simp[Builtin.zeroCells,Value.cells])]
 apply List.ext_getElem?
 intro j
 by_cases hj:j < n
 ·simp[Builtin.zeroCells,Value.cells,Lib.byteCells,kH,hj,Nat.mod_one]
 ·simp[Builtin.zeroCells,Value.cells,Lib.byteCells,kH,hj]
theorem bZ (x u:Int) (a b:Addr) (w:World) (hx:isW x=true) (hf:YO x u=false) (ca:w.cell? a=some (.int .i64 x)) (cb:w.cell? b=some (.int .u64 u)) (h0:0≤u) (h1:u≤18446744073709551615) :
 Calls prog 178 #[.slice none 0 0,.int .i64 x,.int .u64 u,.func (.func 179) #[] #[.pointer (some a),.pointer (some b)]] w fun r w'=>r=.returned (.tuple #[.slice none 0 0,.int .i64 10])∧w'=w:=by
 have HX:=zh hx
 have HF:=zh hf
 clear hx hf
 have he:∀args w,(callFunc 179 args).run prog w=.ok (.enter 179 args) w:=enters_of func179 zk rfl
 go_enter func178,ntmps178
 go_wp2_with fail
 refine (KI x _).mono ?_
 rw[HX.out]
 rintro r w' ⟨rfl,rfl⟩
 go_wp2_with fail
 refine (aJ a b x u _ ca cb HX.out h0 h1).mono ?_
 rw[HF.out]
 rintro r w' ⟨rfl,rfl⟩
 go_wp2
 go_ret2
 exact⟨rfl,rfl⟩
theorem iX (x u:Int) (a b:Addr) (w:World) (hx:isW x=true) (hf:YO x u=true) (ca:w.cell? a=some (.int .i64 x)) (cb:w.cell? b=some (.int .u64 u)) (h0:0≤u) (h1:u≤18446744073709551615) :
 Calls prog 178 #[.slice none 0 0,.int .i64 x,.int .u64 u,.func (.func 179) #[] #[.pointer (some a),.pointer (some b)]] w fun r w'=>∃v',r=.returned (.tuple #[v',.int .i64 0])∧w'.ownsRow w.heap.size 5 1 v' x.toNat (Lib.byteCells (zH x.toNat u.toNat))∧jB w w':=by
 have HX:=zh hx
 have HF:=zh hf
 have x0:0 < x∧x≤8:=by rcases kC hx with rfl | rfl | rfl | rfl<;>omega
 obtain⟨x0,x1⟩:=x0
 clear hx hf
 obtain⟨n,rfl⟩:=Int.eq_ofNat_of_zero_le (show 0≤x by omega)
 have hn0:0 < n:=by omega
 have hn8:n≤8:=by omega
 obtain⟨c,w3,hr,j3,hg⟩:=bY w n hn0 (by omega) 29
 have HR:=zh hr
 have HO:=zh j3
 have HG:=zh hg
 have hcn:(n:Int)≤c:=by
  obtain⟨_,h2⟩:=j3
  rcases h2 with ⟨h2,_⟩|⟨g,cap,cur,h2,_,_,h3,_⟩
  ·cases h2
  ·injection h2 with _ _ h4;omega
 clear hr j3 hg
 have he:∀args w,(callFunc 179 args).run prog w=.ok (.enter 179 args) w:=enters_of func179 zk rfl
 go_enter func178,ntmps178
 go_wp2_with fail
 refine (KI (n:Int) _).mono ?_
 rw[HX.out]
 rintro r w' ⟨rfl,rfl⟩
 go_wp2_with fail
 refine (aJ a b (n:Int) u _ ca cb HX.out h0 h1).mono ?_
 rw[HF.out]
 rintro r w' ⟨rfl,rfl⟩
 go_wp2_with fail
 refine (iW _).mono ?_
 rintro r w' ⟨rfl,rfl⟩
 go_wp2_with (at_builtin;refine Lib.wpList_append_run _ rfl _ _ 29 3 rfl _ _ rfl rfl _ _ HR.out ?_)
 refine (fM _ n c u w3 h0 h1 hn8 w'.heap.size HO.out).mono ?_
 rintro r w4 ⟨rfl,ho,hm⟩
 have HE:=zh (And.intro ho hm)
 clear ho hm
 go_wp2
 go_ret2
 refine⟨_,rfl,HE.out.1,?_⟩
 have h5:=(Moved.of_grew (S:=fun k=>k=w'.heap.size) HG.out).trans' HE.out.2
 exact h5.below (Nat.le_refl _) (fun k hk=>by omega)
theorem lput_ok (x u:Int) (w:World) (hx:isW x=true) (hf:YO x u=true) (h0:0≤u) (h1:u≤18446744073709551615) :
 Calls prog 127 #[.slice none 0 0,.int .i64 x,.int .u64 u] w fun r w'=>∃v',r=.returned (.tuple #[v',.int .i64 0])∧jX w' v' (zH x.toNat u.toNat)∧jB w w':=by
 have HX:=zh hx
 have HF:=zh hf
 clear hx hf
 go_enter func127,ntmps127
 go_wp2_with fail
 refine (iX x u _ _ _ HX.out HF.out (by go_simp) (by go_simp) h0 h1).mono ?_
 rintro r w4 ⟨v',rfl,ho,hg⟩
 have HE:=zh (And.intro ho hg)
 clear ho hg
 go_wp2
 go_ret2
 refine⟨_,rfl,?_,(((jB.refl w).alloc _).alloc _).trans HE.out.2⟩
 have h5:=HE.out.1
 have e:x.toNat=(zH x.toNat u.toNat).length:=(j2 _ _).symm
 exact jX.of_own (by rw[← e];exact h5)
theorem fN (x u:Int) (w:World) (hx:isW x=true) (hf:YO x u=false) (h0:0≤u) (h1:u≤18446744073709551615) :
 Calls prog 127 #[.slice none 0 0,.int .i64 x,.int .u64 u] w fun r w'=>r=.returned (.tuple #[.slice none 0 0,.int .i64 10])∧jB w w':=by
 have HX:=zh hx
 have HF:=zh hf
 clear hx hf
 go_enter func127,ntmps127
 go_wp2_with fail
 refine (bZ x u _ _ _ HX.out HF.out (by go_simp) (by go_simp) h0 h1).mono ?_
 rintro r w4 ⟨rfl,rfl⟩
 go_wp2
 go_ret2
 exact⟨rfl,((jB.refl w).alloc _).alloc _⟩
theorem mD {B:Nat} {w:World} {p:Nat} {o:Option Nat} {most:Int} (s:St) (x u:Int) (a b c:Addr) (ca:w.cell? a=some (.int .i64 x)) (cb:w.cell? b=some (.int .u64 u)) (cc:w.cell? c=some (jF p))
 (h:kL B w p o s.1 most s.2) (hB:B≤w.heap.size) (hl:(s.1.length:Int)≤most) (hm1:most≤1048576) (hx:isW x=true) (h0:0≤u) (h1:u≤18446744073709551615) :
 Calls prog 126 #[.pointer (some a),.pointer (some b),.pointer (some c)] w fun r w'=>r=.returned (.tuple #[])∧jY B w w' p o most (jW most x u s):=by
 have HB:=zh h
 have HX:=zh hx
 have hx8:x.toNat≤8:=by rcases kC hx with rfl | rfl | rfl | rfl<;>decide
 have HX8:=zh hx8
 clear h hx hx8
 go_enter func126,ntmps126
 by_cases hf:YO x u=true
 ·have HS:Hid (jW most x u s=j7 most (zH x.toNat u.toNat) s):=by show _=_;rw[jW,if_pos HX.out,if_pos hf]
  have HF:=zh hf
  clear hf
  go_wp2_with fail
  refine (lput_ok x u _ HX.out HF.out h0 h1).mono ?_
  rintro r w4 ⟨v',rfl,hv,hg⟩
  have cc4:=hg.cell cc
  have hs:=hg.size
  have HE:=zh (And.intro hv hg)
  clear hv hg ca cb cc
  go_wp2_with fail
  refine (putT s (HB.out.grew HE.out.2) (by omega) hl hm1 HE.out.1 (by rw[j2];have:=HX8.out;omega)).mono ?_
  rintro r w5 ⟨rfl,ht⟩
  have HT:=zh ht
  clear ht
  go_wp2
  go_end0
  exact⟨rfl,by rw[HS.out];exact HT.out.after HE.out.2⟩
 ·have HS:Hid (jW most x u s=ZE 10 s):=by show _=_;rw[jW,if_pos HX.out,if_neg hf]
  have HF:=zh (show YO x u=false by simpa using hf)
  clear hf
  go_wp2_with fail
  refine (fN x u _ HX.out HF.out h0 h1).mono ?_
  rintro r w4 ⟨rfl,hg⟩
  have cc4:=hg.cell cc
  have HE:=zh hg
  clear hg ca cb cc
  go_wp2_with fail
  refine (failT s 10 (HB.out.grew HE.out)).mono ?_
  rintro r w5 ⟨rfl,ht⟩
  have HT:=zh ht
  clear ht
  go_wp2
  refine bodyPost_ret (results_none rfl _ _ _) rfl ?_
  exact⟨rfl,by rw[HS.out];exact HT.out.after HE.out⟩
theorem yI {B:Nat} {w:World} {p:Nat} {o:Option Nat} {most:Int} (s:St) (x u:Int) (h:kL B w p o s.1 most s.2) (hB:B≤w.heap.size) (hl:(s.1.length:Int)≤most) (hm1:most≤1048576) (h0:0≤u) (h1:u≤18446744073709551615) :
 Calls prog 71 #[jF p,.int .i64 x,.int .u64 u] w fun r w'=>r=.returned (.tuple #[])∧jY B w w' p o most (jW most x u s):=by
 have HB:=zh h
 clear h
 go_enter func71,ntmps71
 go_wp2_with fail
 have G:jB w (((w.alloc (.cells #[jF p] 45)).alloc (.cells #[.int .i64 x] 3)).alloc (.cells #[.int .u64 u] 32)):=(((jB.refl w).alloc _).alloc _).alloc _
 refine (dC s x _ _ (HB.out.grew G) (jW most x u s) (fun hx=>by rw[jW,if_neg (by simp[hx])]) (fun _=>enters_of func126 zk rfl _ _) (fun hx=>mD s x u _ _ _ (by go_simp) (by go_simp) (by go_simp) (HB.out.grew G) (Nat.le_trans hB G.size) hl hm1 hx h0 h1)).mono ?_
 rintro r w5 ⟨rfl,ht⟩
 have HT:=zh (jY.after G ht)
 clear ht G
 go_wp2
 go_end0
 exact⟨rfl,HT.out⟩
end Go.Proofs.YtjnpcddbgfmpcaaGreat
