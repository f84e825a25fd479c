/-Texts-/
import Derived.Test.YtdjoffgkndncfaaGreatDOtherPAD
import Derived.Lib.BufferMore
set_option linter.unusedVariables false
set_option linter.unusedSimpArgs false
namespace Go.Proofs.YtdjoffgkndncfaaGreat
open Go.Proofs.Tryz
open Go Go.ChangeShapes Go.WideShapes Go.ChangeAt Go.RowKit Go.Joins
variable {B p:Nat} {w:World} {o:Option Nat} {l:List UInt8} {jB x:Int}
theorem lI (w:World) (v:Value) (x:List UInt8) (h:zK w v x) (hl:x.length≤1099511627776) :
 Calls prog 57 #[v] w λr w'=>∃v',r=.returned v'∧w'.ownsRow w.heap.size 5 1 v' x.length (Lib.byteCells x)∧jC w w':=by
 have HX:=zh h;obtain⟨a,c,rfl,hc,zX,_⟩:=h
 cases a with
 | none=>
  have h0:=zX rfl;subst h0;have h1:x=[]:=List.length_eq_zero_iff.1 zo;subst h1;have hq:=λW=>Lib.run_eql_slice_nil_nil (P:=prog) W 0 0 underlying28;show Calls prog 57 #[.slice none 0 0] w _;go_enter func57,ntmps57;go_wp2;go_ret;exact⟨_,rfl,World.ownsRow_nil _ _ _ _,jC.refl _⟩
 | some ad=>
  have hq:=λW=>Lib.run_eql_slice_some_nil (P:=prog) W ad x.length c underlying28
  have j5:Hid ((w.alloc (.cells #[] 5)).ownsRow w.heap.size 5 1 (.slice (some ⟨w.heap.size,0,none⟩) 0 0) ([]:List UInt8).length (Lib.byteCells [])):=
   World.ownsRow_made w #[] 0 (zr _) zd rfl
  have HX2:=zh (HX.grew ((jC.refl w).alloc (.cells #[] 5)));go_enter func57,ntmps57;go_wp2_with (at_builtin;refine V9 rfl _ _ rfl w.heap.size (.slice (some ⟨w.heap.size,0,none⟩) 0 0) [] rfl j5.out _ x rfl HX2.out zp6 zp2 ?_;intro v' w3 hown2 hgr hqq;obtain⟨va2,vc2,rfl,_,_⟩:=V8 hown2;have HO:=zh (qa hown2 hgr);clear hown2 hgr hqq);go_ret;refine⟨_,rfl,by simpa using HO.1,?_⟩;have h1:Below w.heap.size w (w.alloc (.cells #[] 5)):=(jC.refl w).alloc _;exact h1.grown HO.2 zp2 (λk hk=>by cases hk;exact zr _)
theorem EE {e:Int} (h:yA B w p o l jB e) (hl:l.length≤1099511627776) :
 Calls prog 105 #[jI p] w λr w'=>∃v',r=.returned (.tuple #[v',.int .i64 e])∧w'.ownsRow w.heap.size 5 1 v' (if e=0 then l else []).length (Lib.byteCells (if e=0 then l else []))∧jC w w':=by
 have HB:=zh h;obtain⟨hBp,v,h1,h2,h3,h4⟩:=h;obtain⟨c0,c1,c2,c3⟩:=J5 h1;obtain⟨va,vc,rfl,hcap,zX⟩:=V8 h2;have HX:=zh (zK.of_own h2);clear h1 h2 h3 h4;go_enter func105,ntmps105;go_wp2_with fail;refine (KC HB.out).mono ?_;rintro r w' ⟨rfl,rfl⟩;by_cases he:e=0
 ·subst he;go_wp2_with fail;refine (lI _ _ l HX.out hl).mono ?_;rintro r w3 ⟨v',rfl,ho,hg⟩;have HO:=zh (qa ho hg);clear ho hg;go_wp2
  go_ret2
  exact⟨_,rfl,HO.out⟩
 go_wp2
 go_ret2
 exact⟨_,rfl,World.ownsRow_nil _ _ _ _,jC.refl _⟩
theorem QB {a b c:Value} {t:TypeId} (h:w.heap[p]? = some (.cells #[a,b,c] t (0,0))) :
 w.cell? ⟨p,0,none⟩=some a∧w.cell? ⟨p,1,none⟩=some b∧w.cell? ⟨p,2,none⟩=some c:=
 ⟨by rw[cell_of_row w p 0 _ _ _ h];rfl,by rw[cell_of_row w p 1 _ _ _ h];rfl,by rw[cell_of_row w p 2 _ _ _ h];rfl⟩
theorem GY {B':Nat} {t:TypeId} {v:Value} {n:Nat} {xs:List Value} (h:w.ownsRow B t 1 v n xs) (hb:B'≤B):w.ownsRow B' t 1 v n xs:=by
 obtain⟨h1,h2⟩:=h;refine⟨h1,?_⟩;rcases h2 with h2|⟨g,cap,cur,hv,hg,r⟩
 ·exact .inl h2
 exact .inr ⟨g,cap,cur,hv,by omega,r⟩
def isW (w:Int):Bool:=w == 1 || w == 2 || w == 4 || w == 8
theorem aB (x:Int) (w:World) :
 Calls prog 241 #[.int .i64 x] w λr w'=>r=.returned (.bool (isW x))∧w'=w:=by
 go_enter func241,ntmps241;by_cases h1:x=1
 ·subst h1;go_wp2;go_ret;exact⟨rfl,rfl⟩
 by_cases h2:x=2
 ·subst h2;go_wp2;go_ret;exact⟨rfl,rfl⟩
 by_cases h4:x=4
 ·subst h4;go_wp2;go_ret;exact⟨rfl,rfl⟩
 by_cases h8:x=8
 ·subst h8;go_wp2;go_ret;exact⟨rfl,rfl⟩
 go_wp2;go_ret;refine⟨?_,rfl⟩;simp[isW,h1,h2,h4,h8]
def KF (x:Int):Int:=if isW x then 0 else 2
theorem QR (x:Int) (w:World) :
 Calls prog 55 #[.int .i64 x] w λr w'=>(∃c,r=.returned (.tuple #[.int .i64 c,.int .i64 (KF x)]))∧w'=w:=by
 have hstep:∀k:Nat,(∀j:Nat,j < k→x≠2 ^ j)→x≠2 ^ k→∀j:Nat,j < k+1→x≠2 ^ j:=by
  intro k h1 h2 j hj;rcases (by omega:j < k∨j=k) with h|rfl
  ·exact h1 j h
  exact h2
 go_enter func55,ntmps55;go_wp2_with fail
 go_loopw [5] (λi wr=>wr=w∧∃k:Nat,k≤4∧i=.int .i64 k∧Hid (∀j:Nat,j < k→x≠2 ^ j)) (λi _=>4 - (intOf i).toNat)
 case atStart=>exact⟨rfl,0,by omega,rfl,λj hj=>by omega⟩
 case round=>
  obtain⟨rfl,k,hk,rfl,HN⟩:=hrel;by_cases hlt:k < 4
  ·obtain rfl|rfl|rfl|rfl:k=0∨k=1∨k=2∨k=3:=by omega
   ·by_cases hx:x=1
    ·subst hx;go_wp2
     go_ret2
     exact⟨⟨_,rfl⟩,rfl⟩
    go_wp2_with fail;go_roundw
    case rel=>exact⟨trivial,1,by omega,by go_num,hstep _ HN.out eV⟩
    case measure=>simp[intOf]
   ·by_cases hx:x=2
    ·subst hx;go_wp2
     go_ret2
     exact⟨⟨_,rfl⟩,rfl⟩
    go_wp2_with fail;go_roundw
    case rel=>exact⟨trivial,2,by omega,by go_num,hstep _ HN.out eV⟩
    case measure=>simp[intOf]
   ·by_cases hx:x=4
    ·subst hx;go_wp2
     go_ret2
     exact⟨⟨_,rfl⟩,rfl⟩
    go_wp2_with fail;go_roundw
    case rel=>exact⟨trivial,3,by omega,by go_num,hstep _ HN.out eV⟩
    case measure=>simp[intOf]
   by_cases hx:x=8
   ·subst hx;go_wp2
    go_ret2
    exact⟨⟨_,rfl⟩,rfl⟩
   go_wp2_with fail;go_roundw
   case rel=>exact⟨trivial,4,by omega,by go_num,hstep _ HN.out eV⟩
   case measure=>simp[intOf]
  have e:k=4:=by omega
  subst e
  have HX:Hid (KF x=2):=by
   show KF x=2;have a0:=HN.out 0 zo;have a1:=HN.out 1 zo;have a2:=HN.out 2 zo;have a3:=HN.out 3 zo;simp at a0 a1 a2 a3;simp[KF,isW,a0,a1,a2,a3]
  go_wp2
  go_ret2
  exact⟨⟨0,by rw[HX];rfl⟩,rfl⟩
abbrev St:=List UInt8 × Int
def kD (n:Nat):List UInt8:=List.replicate n 0
def j8 (l:List UInt8) (x:Int):Nat:=((x - (l.length:Int) % x) % x).toNat
def k8 (n:Nat) (u:Nat):List UInt8:=(List.range n).map λi=>UInt8.ofNat (u / 256 ^ i % 256)
def fB (x:Int) (u:Int):Bool:=decide (u < 2 ^ (8*x.toNat))
def kQ (jB:Int) (y:List UInt8) (s:St):St:=(aA s.1 y jB s.2,dK s.1 y jB s.2)
def bZ (x:Int) (s:St):St:=(s.1,zO s.2 x)
def jL (jB x:Int) (s:St):St:=if isW x then kQ jB (kD (j8 s.1 x)) s else bZ 2 s
def j9 (jB x u:Int) (s:St):St:=if isW x then (if fB x u then kQ jB (k8 x.toNat u.toNat) s else bZ 10 s) else bZ 2 s
theorem zW (h:isW x=true):x=1∨x=2∨x=4∨x=8:=by
 simp[isW] at h;omega
theorem jT (n:Nat):(kD n).length=n:=by simp[kD]
theorem kF (n u:Nat):(k8 n u).length=n:=by simp[k8]
theorem dL (h:isW x=true):(j8 l x:Int) < x∧(j8 l x:Int)=(x - (l.length:Int) % x) % x:=by
 unfold j8;rcases zW h with rfl|rfl|rfl|rfl<;>omega
theorem bH {y:List UInt8} {s:St} (h:(s.1.length:Int)≤jB):((kQ jB y s).1.length:Int)≤jB:=by
 unfold kQ aA;dsimp only;split
 ·rename_i hh;rw[zb];omega
 exact h
theorem z8 {s:St} (h:(s.1.length:Int)≤jB):((jL jB x s).1.length:Int)≤jB:=by
 unfold jL;split
 ·exact bH h
 exact h
theorem qV {u:Int} {s:St} (h:(s.1.length:Int)≤jB):((j9 jB x u s).1.length:Int)≤jB:=by
 unfold j9;split
 ·split
  ·exact bH h
  exact h
 exact h
theorem zZ (w:World) (g k:Nat) (v:Value):Moved (λj=>j=g) w (w.setCell ⟨g,k,none⟩ v):=Moved.setCell (p:=⟨g,k,none⟩) (Moved.refl (λj=>j=g) w) (λ_=>rfl) v
def kO (B:Nat) (w w':World) (p:Nat) (o:Option Nat) (jB:Int) (s:St):Prop:=∃o',yA B w' p o' s.1 jB s.2∧yX w o o'∧Moved (KL p o) w w'
section
variable {B:Nat} {w w1 w2:World} {p:Nat} {o:Option Nat} {jB:Int} {s s1 s2:St}
theorem kO.refl (h:yA B w p o s.1 jB s.2):kO B w w p o jB s:=⟨o,h,yX.refl _ _,Moved.refl _ _⟩
theorem kO.after (hg:jC w w1) (h:kO B w1 w2 p o jB s):kO B w w2 p o jB s:=by
 obtain⟨o',h1,h2,h3⟩:=h;exact⟨o',h1,h2.earlier hg.size,(Moved.of_grew (S:=KL p o) hg).trans' h3⟩
theorem kO.grew (h:kO B w w1 p o jB s) (hg:jC w1 w2):kO B w w2 p o jB s:=by
 obtain⟨o',h1,h2,h3⟩:=h;exact⟨o',h1.grew hg,h2,h3.grew hg⟩
end
theorem putT {sv:Value} {x:List UInt8} (s:St) (h:yA B w p o s.1 jB s.2) (hB:B≤w.heap.size) (hl:(s.1.length:Int)≤jB) (hm1:jB≤1048576) (hx:zK w sv x) (hxl:x.length≤9223372036854775807) :
 Calls prog 160 #[jI p,sv] w λr w'=>r=.returned (.tuple #[])∧kO B w w' p o jB (kQ jB x s):=
 (put_any sv x h hB zo zo hm1 hx hxl).mono λr w' ⟨hr,o',h1,h2,h3⟩=>⟨hr,o',h1,h2,h3⟩
theorem failT (s:St) (x:Int) (h:yA B w p o s.1 jB s.2) :
 Calls prog 163 #[jI p,.int .i64 x] w λr w'=>r=.returned (.tuple #[])∧kO B w w' p o jB (bZ x s):=
 (uH x h).mono λr w' ⟨hr,h1,h2⟩=>⟨hr,o,h1,yX.refl _ _,h2⟩
theorem QS (x:Int) (w:World) (h:isW x=true) :
 Calls prog 55 #[.int .i64 x] w λr w'=>(∃c,r=.returned (.tuple #[.int .i64 c,.int .i64 0]))∧w'=w:=
 (QR x w).mono λr w' ⟨⟨c,hc⟩,hw⟩=>⟨⟨c,by rw[hc,KF,zl h]⟩,hw⟩
theorem bI (x:Int) (w:World) (h:isW x=false) :
 Calls prog 55 #[.int .i64 x] w λr w'=>(∃c,r=.returned (.tuple #[.int .i64 c,.int .i64 2]))∧w'=w:=
 (QR x w).mono λr w' ⟨⟨c,hc⟩,hw⟩=>⟨⟨c,by rw[hc,KF,ze (by simp[h])]⟩,hw⟩
theorem uI (s:St) (x:Int) (k:Nat) (cap:Array Value) (h:yA B w p o s.1 jB s.2) (s':St) (hf:isW x=false→s'=bZ 2 s) (he:∀w,(callFunc k cap).run prog w=.ok (.enter k cap) w)
 (hdo:isW x=true→Calls prog k cap w λr w'=>r=.returned (.tuple #[])∧kO B w w' p o jB s') :
 Calls prog 158 #[jI p,.int .i64 x,.func (.func k) #[] cap] w λr w'=>r=.returned (.tuple #[])∧kO B w w' p o jB s':=by
 have HB:=zh h;have HD:=zh hdo;have HF:=zh hf;clear h hdo hf;go_enter func158,ntmps158;by_cases hx:isW x=true
 ·have HX:=zh hx;clear hx;go_wp2_with fail;refine (QS x _ HX.out).mono ?_;rintro r w' ⟨⟨c,rfl⟩,rfl⟩;go_wp2_with fail;refine (HD.out HX.out).mono ?_;rintro r w2 ⟨rfl,ht⟩;have HT:=zh ht;clear ht;go_wp2;go_end0;exact⟨rfl,HT.out⟩
 have HX:=zh (show isW x=false by simpa using hx);clear hx;go_wp2_with fail;refine (bI x _ HX.out).mono ?_;rintro r w' ⟨⟨c,rfl⟩,rfl⟩;go_wp2_with fail;refine (failT s 2 HB.out).mono ?_;rintro r w2 ⟨rfl,ht⟩;have HT:=zh ht;clear ht;go_wp2;refine bodyPost_ret (results_none rfl _ _ _) rfl ?_;exact⟨rfl,by rw[HF.out HX.out];exact HT.out⟩
end Go.Proofs.YtdjoffgkndncfaaGreat
