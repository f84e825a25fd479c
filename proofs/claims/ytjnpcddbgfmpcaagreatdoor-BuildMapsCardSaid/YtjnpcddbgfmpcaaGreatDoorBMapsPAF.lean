/-
  Texts of the proof.
-/
import Derived.Test.YtjnpcddbgfmpcaaGreatDoorBMapsPAE
import Derived.Lib.BufferMore
set_option linter.unusedVariables false
set_option linter.unusedSimpArgs false
namespace Go.Proofs.YtjnpcddbgfmpcaaGreatDoor
open Go.Proofs.Tryz
open Go Go.ChangeShapes Go.WideShapes Go.ChangeAt Go.RowKit Go.Joins
theorem l3 (w:World) (v:Value) (x:List UInt8) (h:kB w v x) (hl:x.length≤1099511627776) :
 Calls prog 101 #[v] w fun r w'=>∃v',r=.returned v'∧w'.ownsRow w.heap.size 5 1 v' x.length (Lib.byteCells x)∧jA w w':=by
 have HX:=zh h
 obtain⟨a,c,rfl,hc,kQ,_⟩:=h
 cases a with
 | none=>
  have h0:=kQ rfl
  subst h0
  have h1:x=[]:=List.length_eq_zero_iff.1 (by omega)
  subst h1
  have hq:=fun W=>Lib.run_eql_slice_nil_nil (P:=prog) W 0 0 underlying31
  show Calls prog 101 #[.slice none 0 0] w _
  go_enter func101,ntmps101
  go_wp2
  go_ret
  exact⟨_,rfl,World.ownsRow_nil _ _ _ _,jA.refl _⟩
 | some ad=>
  have hq:=fun W=>Lib.run_eql_slice_some_nil (P:=prog) W ad x.length c underlying31
  have j3:Hid ((w.alloc (.cells #[] 5)).ownsRow w.heap.size 5 1 (.slice (some ⟨w.heap.size,0,none⟩) 0 0) ([]:List UInt8).length (Lib.byteCells [])):=
   World.ownsRow_made w #[] 0 (Nat.le_refl _) (by decide) rfl
  have HX2:=zh (HX.out.grew ((jA.refl w).alloc (.cells #[] 5)))
  go_enter func101,ntmps101
  go_wp2_with (at_builtin;refine ZK rfl _ _ rfl w.heap.size (.slice (some ⟨w.heap.size,0,none⟩) 0 0) [] rfl j3.out _ x rfl HX2.out (by simp;omega) (by simp) ?_;intro v' w3 hown2 hgr hqq;obtain⟨va2,vc2,rfl,_,_⟩:=ZJ hown2;have HO:=zh (And.intro hown2 hgr);clear hown2 hgr hqq)
  go_ret
  refine⟨_,rfl,by simpa using HO.out.1,?_⟩
  have h1:Below w.heap.size w (w.alloc (.cells #[] 5)):=(jA.refl w).alloc _
  exact h1.grown HO.out.2 (by simp) (fun k hk=>by cases hk;exact Nat.le_refl _)
theorem oM {B:Nat} {w:World} {p:Nat} {o:Option Nat} {l:List UInt8} {most e:Int} (h:kU B w p o l most e) (hl:l.length≤1099511627776) :
 Calls prog 53 #[jF p] w fun r w'=>∃v',r=.returned (.tuple #[v',.int .i64 e])∧w'.ownsRow w.heap.size 5 1 v' (if e=0 then l else []).length (Lib.byteCells (if e=0 then l else []))∧jA w w':=by
 have HB:=zh h
 obtain⟨hBp,v,h1,h2,h3,h4⟩:=h
 obtain⟨c0,c1,c2,c3⟩:=y5 h1
 obtain⟨va,vc,rfl,hcap,kQ⟩:=ZJ h2
 have HX:=zh (kB.of_own h2)
 clear h1 h2 h3 h4
 go_enter func53,ntmps53
 go_wp2_with fail
 refine (qB HB.out).mono ?_
 rintro r w' ⟨rfl,rfl⟩
 by_cases he:e=0
 ·subst he
  go_wp2_with fail
  refine (l3 _ _ l HX.out hl).mono ?_
  rintro r w3 ⟨v',rfl,ho,hg⟩
  have HO:=zh (And.intro ho hg)
  clear ho hg
  go_wp2
  go_ret2
  exact⟨_,rfl,HO.out⟩
 ·go_wp2
  go_ret2
  exact⟨_,rfl,World.ownsRow_nil _ _ _ _,jA.refl _⟩
theorem J1 {w:World} {p:Nat} {a b c:Value} {t:TypeId} (h:w.heap[p]? = some (.cells #[a,b,c] t (0,0))) :
 w.cell? ⟨p,0,none⟩=some a∧w.cell? ⟨p,1,none⟩=some b∧w.cell? ⟨p,2,none⟩=some c:=
 ⟨by rw[cell_of_row w p 0 _ _ _ h];rfl,by rw[cell_of_row w p 1 _ _ _ h];rfl,by rw[cell_of_row w p 2 _ _ _ h];rfl⟩
theorem rL {w:World} {B B':Nat} {t:TypeId} {v:Value} {n:Nat} {xs:List Value} (h:w.ownsRow B t 1 v n xs) (hb:B'≤B):w.ownsRow B' t 1 v n xs:=by
 obtain⟨h1,h2⟩:=h
 refine⟨h1,?_⟩
 rcases h2 with h2|⟨g,cap,cur,hv,hg,r⟩
 ·exact .inl h2
 ·exact .inr ⟨g,cap,cur,hv,by omega,r⟩
def isW (w:Int):Bool:=w == 1 || w == 2 || w == 4 || w == 8
theorem ZM (x:Int) (w:World) :
 Calls prog 104 #[.int .i64 x] w fun r w'=>r=.returned (.bool (isW x))∧w'=w:=by
 go_enter func104,ntmps104
 by_cases h1:x=1
 ·subst h1;go_wp2;go_ret;exact⟨rfl,rfl⟩
 by_cases h2:x=2
 ·subst h2;go_wp2;go_ret;exact⟨rfl,rfl⟩
 by_cases h4:x=4
 ·subst h4;go_wp2;go_ret;exact⟨rfl,rfl⟩
 by_cases h8:x=8
 ·subst h8;go_wp2;go_ret;exact⟨rfl,rfl⟩
 go_wp2
 go_ret
 refine⟨?_,rfl⟩
 simp[isW,h1,h2,h4,h8]
def dI (x:Int):Int:=if isW x then 0 else 2
theorem gP (x:Int) (w:World) :
 Calls prog 126 #[.int .i64 x] w fun r w'=>(∃c,r=.returned (.tuple #[.int .i64 c,.int .i64 (dI x)]))∧w'=w:=by
 have hstep:∀k:Nat,(∀j:Nat,j < k→x≠2 ^ j)→x≠2 ^ k→∀j:Nat,j < k+1→x≠2 ^ j:=by
  intro k h1 h2 j hj
  rcases (by omega:j < k∨j=k) with h|rfl
  ·exact h1 j h
  ·exact h2
 go_enter func126,ntmps126
 go_wp2_with fail
 go_loopw [5] (fun i wr=>wr=w∧∃k:Nat,k≤4∧i=.int .i64 k∧Hid (∀j:Nat,j < k→x≠2 ^ j)) (fun i _=>4 - (intOf i).toNat)
 case atStart=>exact⟨rfl,0,by omega,rfl,fun j hj=>by omega⟩
 case round=>
  obtain⟨rfl,k,hk,rfl,HN⟩:=hrel
  by_cases hlt:k < 4
  ·obtain rfl|rfl|rfl|rfl:k=0∨k=1∨k=2∨k=3:=by omega
   ·by_cases hx:x=1
    ·subst hx
     go_wp2
     go_ret2
     exact⟨⟨_,rfl⟩,rfl⟩
    ·go_wp2_with fail
     go_roundw
     case rel=>exact⟨trivial,1,by omega,by go_num,hstep _ HN.out (by simpa using hx)⟩
     case measure=>simp[intOf]
   ·by_cases hx:x=2
    ·subst hx
     go_wp2
     go_ret2
     exact⟨⟨_,rfl⟩,rfl⟩
    ·go_wp2_with fail
     go_roundw
     case rel=>exact⟨trivial,2,by omega,by go_num,hstep _ HN.out (by simpa using hx)⟩
     case measure=>simp[intOf]
   ·by_cases hx:x=4
    ·subst hx
     go_wp2
     go_ret2
     exact⟨⟨_,rfl⟩,rfl⟩
    ·go_wp2_with fail
     go_roundw
     case rel=>exact⟨trivial,3,by omega,by go_num,hstep _ HN.out (by simpa using hx)⟩
     case measure=>simp[intOf]
   ·by_cases hx:x=8
    ·subst hx
     go_wp2
     go_ret2
     exact⟨⟨_,rfl⟩,rfl⟩
    ·go_wp2_with fail
     go_roundw
     case rel=>exact⟨trivial,4,by omega,by go_num,hstep _ HN.out (by simpa using hx)⟩
     case measure=>simp[intOf]
  ·have e:k=4:=by omega
   subst e
   have HX:Hid (dI x=2):=by
    show dI x=2
    have a0:=HN.out 0 (by omega)
    have a1:=HN.out 1 (by omega)
    have a2:=HN.out 2 (by omega)
    have a3:=HN.out 3 (by omega)
    simp at a0 a1 a2 a3
    simp[dI,isW,a0,a1,a2,a3]
   go_wp2
   go_ret2
   exact⟨⟨0,by rw[HX.out];rfl⟩,rfl⟩
abbrev St:=List UInt8 × Int
def j6 (n:Nat):List UInt8:=List.replicate n 0
def j5 (l:List UInt8) (x:Int):Nat:=((x - (l.length:Int) % x) % x).toNat
def kH (n:Nat) (u:Nat):List UInt8:=(List.range n).map fun i=>UInt8.ofNat (u / 256 ^ i % 256)
def VA (x:Int) (u:Int):Bool:=decide (u < 2 ^ (8*x.toNat))
def kA (most:Int) (y:List UInt8) (s:St):St:=(ZL s.1 y most s.2,QG s.1 y most s.2)
def YL (x:Int) (s:St):St:=(s.1,kL s.2 x)
def jG (most x:Int) (s:St):St:=if isW x then kA most (j6 (j5 s.1 x)) s else YL 2 s
def jW (most x u:Int) (s:St):St:=if isW x then (if VA x u then kA most (kH x.toNat u.toNat) s else YL 10 s) else YL 2 s
theorem kJ {x:Int} (h:isW x=true):x=1∨x=2∨x=4∨x=8:=by
 simp[isW] at h;omega
theorem jX (n:Nat):(j6 n).length=n:=by simp[j6]
theorem j9 (n u:Nat):(kH n u).length=n:=by simp[kH]
theorem QH {l:List UInt8} {x:Int} (h:isW x=true):(j5 l x:Int) < x∧(j5 l x:Int)=(x - (l.length:Int) % x) % x:=by
 unfold j5
 rcases kJ h with rfl|rfl|rfl|rfl<;>omega
theorem Z9 {most:Int} {y:List UInt8} {s:St} (h:(s.1.length:Int)≤most):((kA most y s).1.length:Int)≤most:=by
 unfold kA ZL
 dsimp only
 split
 ·rename_i hh;rw[List.length_append];omega
 ·exact h
theorem kT {most x:Int} {s:St} (h:(s.1.length:Int)≤most):((jG most x s).1.length:Int)≤most:=by
 unfold jG
 split
 ·exact Z9 h
 ·exact h
theorem yA {most x u:Int} {s:St} (h:(s.1.length:Int)≤most):((jW most x u s).1.length:Int)≤most:=by
 unfold jW
 split
 ·split
  ·exact Z9 h
  ·exact h
 ·exact h
theorem zK (w:World) (g k:Nat) (v:Value):Moved (fun j=>j=g) w (w.setCell ⟨g,k,none⟩ v):=Moved.setCell (p:=⟨g,k,none⟩) (Moved.refl (fun j=>j=g) w) (fun _=>rfl) v
def jZ (B:Nat) (w w':World) (p:Nat) (o:Option Nat) (most:Int) (s:St):Prop:=∃o',kU B w' p o' s.1 most s.2∧zO w o o'∧Moved (qH p o) w w'
section
variable {B:Nat} {w w1 w2:World} {p:Nat} {o:Option Nat} {most:Int} {s s1 s2:St}
theorem jZ.refl (h:kU B w p o s.1 most s.2):jZ B w w p o most s:=⟨o,h,zO.refl _ _,Moved.refl _ _⟩
theorem jZ.after (hg:jA w w1) (h:jZ B w1 w2 p o most s):jZ B w w2 p o most s:=by
 obtain⟨o',h1,h2,h3⟩:=h
 exact⟨o',h1,h2.earlier hg.size,(Moved.of_grew (S:=qH p o) hg).trans' h3⟩
theorem jZ.grew (h:jZ B w w1 p o most s) (hg:jA w1 w2):jZ B w w2 p o most s:=by
 obtain⟨o',h1,h2,h3⟩:=h
 exact⟨o',h1.grew hg,h2,h3.grew hg⟩
end
theorem putT {sv:Value} {x:List UInt8} {B:Nat} {w:World} {p:Nat} {o:Option Nat} {most:Int} (s:St) (h:kU B w p o s.1 most s.2) (hB:B≤w.heap.size) (hl:(s.1.length:Int)≤most) (hm1:most≤1048576) (hx:kB w sv x) (hxl:x.length≤9223372036854775807) :
 Calls prog 94 #[jF p,sv] w fun r w'=>r=.returned (.tuple #[])∧jZ B w w' p o most (kA most x s):=
 (put_any sv x h hB (by omega) (by omega) hm1 hx hxl).mono fun r w' ⟨hr,o',h1,h2,h3⟩=>⟨hr,o',h1,h2,h3⟩
theorem failT {B:Nat} {w:World} {p:Nat} {o:Option Nat} {most:Int} (s:St) (x:Int) (h:kU B w p o s.1 most s.2) :
 Calls prog 99 #[jF p,.int .i64 x] w fun r w'=>r=.returned (.tuple #[])∧jZ B w w' p o most (YL x s):=
 (gO x h).mono fun r w' ⟨hr,h1,h2⟩=>⟨hr,o,h1,zO.refl _ _,h2⟩
theorem KD (x:Int) (w:World) (h:isW x=true) :
 Calls prog 126 #[.int .i64 x] w fun r w'=>(∃c,r=.returned (.tuple #[.int .i64 c,.int .i64 0]))∧w'=w:=
 (gP x w).mono fun r w' ⟨⟨c,hc⟩,hw⟩=>⟨⟨c,by rw[hc,dI,if_pos h]⟩,hw⟩
theorem YA (x:Int) (w:World) (h:isW x=false) :
 Calls prog 126 #[.int .i64 x] w fun r w'=>(∃c,r=.returned (.tuple #[.int .i64 c,.int .i64 2]))∧w'=w:=
 (gP x w).mono fun r w' ⟨⟨c,hc⟩,hw⟩=>⟨⟨c,by rw[hc,dI,if_neg (by simp[h])]⟩,hw⟩
theorem gQ {B:Nat} {w:World} {p:Nat} {o:Option Nat} {most:Int} (s:St) (x:Int) (k:Nat) (cap:Array Value) (h:kU B w p o s.1 most s.2) (s':St) (hf:isW x=false→s'=YL 2 s) (he:∀w,(callFunc k cap).run prog w=.ok (.enter k cap) w)
 (hdo:isW x=true→Calls prog k cap w fun r w'=>r=.returned (.tuple #[])∧jZ B w w' p o most s') :
 Calls prog 92 #[jF p,.int .i64 x,.func (.func k) #[] cap] w fun r w'=>r=.returned (.tuple #[])∧jZ B w w' p o most s':=by
 have HB:=zh h
 have HD:=zh hdo
 have HF:=zh hf
 clear h hdo hf
 go_enter func92,ntmps92
 by_cases hx:isW x=true
 ·have HX:=zh hx
  clear hx
  go_wp2_with fail
  refine (KD x _ HX.out).mono ?_
  rintro r w' ⟨⟨c,rfl⟩,rfl⟩
  go_wp2_with fail
  refine (HD.out HX.out).mono ?_
  rintro r w2 ⟨rfl,ht⟩
  have HT:=zh ht
  clear ht
  go_wp2
  go_end0
  exact⟨rfl,HT.out⟩
 ·have HX:=zh (show isW x=false by simpa using hx)
  clear hx
  go_wp2_with fail
  refine (YA x _ HX.out).mono ?_
  rintro r w' ⟨⟨c,rfl⟩,rfl⟩
  go_wp2_with fail
  refine (failT s 2 HB.out).mono ?_
  rintro r w2 ⟨rfl,ht⟩
  have HT:=zh ht
  clear ht
  go_wp2
  refine bodyPost_ret (results_none rfl _ _ _) rfl ?_
  exact⟨rfl,by rw[HF.out HX.out];exact HT.out⟩
end Go.Proofs.YtjnpcddbgfmpcaaGreatDoor
