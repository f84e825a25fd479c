/-Texts-/
import Derived.Test.YtdjoffgkndncfaaGreatDOtherPBM
import Derived.Test.YtdjoffgkndncfaaGreatDOtherPAW
set_option linter.unusedVariables false
set_option linter.unusedSimpArgs false
namespace Go.Proofs.YtdjoffgkndncfaaGreat
open Go Go.ChangeShapes Go.WideShapes Go.ChangeAt Go.RowKit Go.Joins Go.Deep
open Ft (V3 vV okV ValsAt inlineB legalB packF codeF typedF allF)
variable {N:List (Int × ByteArray)} {l:List V3} {j:Nat}
theorem ZY:∀(l:List V3),qY l=true↔l.length % 2=0∧∀(j:Nat) v,l[2*j]? = some v→v.1=4
 | []=>by simp[qY]
 | [a]=>by simp[qY]
 | a::b::r=>by
  have ih:=ZY r;show (decide (a.1=4) && qY r)=true↔_;rw[zg,ih,zp];have hl:(a::b::r).length % 2=r.length % 2:=by simp only[zz];omega
  rw[hl];constructor
  ·rintro ⟨h1,h2,h3⟩;refine⟨h2,λj v hv=>?_⟩
   match j,hv with
   | 0,hv=>simp at hv;rw[← hv];exact h1
   | j+1,hv=>
    rw[show 2*(j+1)=2*j+1+1 by omega] at hv;exact h3 j v (by simpa using hv)
  rintro ⟨h1,h2⟩;refine⟨h2 0 a rfl,h1,λj v hv=>h2 (j+1) v ?_⟩;rw[show 2*(j+1)=2*j+1+1 by omega];simpa using hv
theorem JA (N:List (Int × ByteArray)):∀(l:List V3),(zE N l).length=l.length / 2
 | []=>rfl
 | [a]=>by simp[zE]
 | a::b::r=>by
  show (_::zE N r).length=_;rw[zz,JA N r];simp only[zz];omega
theorem dF (N:List (Int × ByteArray)):∀(l:List V3) (j:Nat) (k v:V3),l[2*j]? = some k→l[2*j+1]? = some v→(zE N l)[j]? = some (yP N k.2.2,k,v)
 | [],j,k,v,h,_=>by simp at h
 | [a],j,k,v,_,h=>by simp at h
 | a::b::r,0,k,v,h1,h2=>by
  simp at h1 h2;subst h1 h2;rfl
 | a::b::r,j+1,k,v,h1,h2=>by
  rw[show 2*(j+1)=2*j+1+1 by omega] at h1 h2;show (_::zE N r)[j+1]? = _;rw[xp];exact dF N r j k v (by simpa using h1) (by simpa using h2)
def qR (N:List (Int × ByteArray)) (l:List V3) (i:Nat):List ByteArray:=((zE N l).map (·.1)).take ((i+1) / 2)
theorem tP (N:List (Int × ByteArray)) (l:List V3):qR N l 0=[]:=by simp[qR]
theorem iG (N:List (Int × ByteArray)) (l:List V3) (j:Nat):qR N l (2*j+1+1)=qR N l (2*j+1):=by
 unfold qR;rw[show (2*j+1+1+1) / 2=(2*j+1+1) / 2 by omega]
theorem tQ {k:V3} (hl:l.length % 2=0) (hk:l[2*j]? = some k):qR N l (2*j+1)=qR N l (2*j)++[yP N k.2.2]:=by
 have h1:=(zi.1 hk).1;obtain⟨v,hv⟩:∃v,l[2*j+1]? = some v:=⟨_,za zo⟩;have hp:=dF N l j k v hk hv;unfold qR;rw[show (2*j+1+1) / 2=j+1 by omega,show (2*j+1) / 2=j by omega,qo];simp[hp]
theorem AL (hl:l.length % 2=0):qR N l l.length=(zE N l).map (·.1):=by
 unfold qR;rw[List.take_of_length_le (by rw[qb,JA];omega)]
theorem nJ (N:List (Int × ByteArray)) (l:List V3) (i:Nat):(qR N l i).length≤l.length:=by
 unfold qR;rw[qr,qb,JA];omega
def vM (N:List (Int × ByteArray)) (l:List V3):List Nat:=(vW (((zE N l).map (·.1)).zip (List.range (zE N l).length))).map (·.2)
theorem CP (h:((zE N l).map (·.1)).Nodup):KN ((zE N l).map (·.1))=((vM N l).map (λ(x:Nat)=>(x:Int)),0):=by
 unfold KN vM;rw[zl h,xe,qb];rfl
theorem rN (h:j∈vM N l):j < l.length / 2:=by
 unfold vM at h;obtain⟨p,hp,rfl⟩:=qh.1 h;have h1:=((qT _).mem_iff).1 hp;have h2:=(List.of_mem_zip h1).2;rw[← JA N l];exact qw.1 h2
theorem oJ (N:List (Int × ByteArray)) (l:List V3):(vM N l).length=l.length / 2:=by
 unfold vM;rw[qb,(qT _).length_eq,List.length_zip,qb,List.length_range,JA];omega
theorem AM {α:Type} (es:List (ByteArray × α)) (z:ByteArray × α):((es.map (·.1)).zip (List.range es.length)).map (λp=>(p.1,(es.getD p.2 z).2))=es:=by
 apply List.ext_getElem zp2;intro i h1 h2;simp only[List.getElem_map,List.getElem_zip,List.getElem_range,zw,za h2,Option.getD_some]
theorem AN (N:List (Int × ByteArray)) (l:List V3) (z:ByteArray × V3 × V3):(vM N l).map (λj=>((zE N l).getD j z).2)=(vW (zE N l)).map (·.2):=by
 have h:=bL (λj=>((zE N l).getD j z).2) (((zE N l).map (·.1)).zip (List.range (zE N l).length));rw[AM] at h;rw[← h,xe];unfold vM;rw[xe];rfl
theorem CQ (N:List (Int × ByteArray)) (l:List V3) (z:ByteArray):(vM N l).map (λj=>((zE N l).map (·.1)).getD j z)=(vW (zE N l)).map (·.1):=by
 have h:=bL (λj=>((zE N l).getD j (z,(0,0,0),(0,0,0))).2) (((zE N l).map (·.1)).zip (List.range (zE N l).length));rw[AM] at h;rw[← h,xe];unfold vM;rw[xe];refine List.map_congr_left λp hp=>?_;have h1:=((qT _).mem_iff).1 hp;obtain⟨i,hi,he⟩:=List.mem_iff_getElem.1 h1;rw[List.getElem_zip,List.getElem_range] at he;subst he;have hi2:i < ((zE N l).map (·.1)).length:=by simp at hi⊢;omega
 simp only[Function.comp,zw,za hi2,Option.getD_some]
theorem D1 (hl:l.length % 2=0) (b:Nat) (hb:b=0∨b=1):(vM N l).map (λj=>l.getD (2*j+b) (0,0,0))=(vW (zE N l)).map (λe=>if b=0 then e.2.1 else e.2.2):=by
 have h:=ql (List.map λp:V3 × V3=>if b=0 then p.1 else p.2) (AN N l (⟨#[]⟩,(0,0,0),(0,0,0)));rw[xe,xe] at h;refine Eq.trans ?_ h;refine List.map_congr_left λj hj=>?_;have hlt:=rN hj;have hp:=dF N l j (l[2*j]' zo) (l[2*j+1]' zo) (za zo) (za zo);simp only[Function.comp,zw,hp,Option.getD_some];rcases hb with rfl|rfl
 ·simp[za (show 2*j < l.length by omega)]
 simp[za (show 2*j+1 < l.length by omega)]
theorem tR (l:List ByteArray) (k:ByteArray):zF (l++[k])=zF l++(k++⟨#[0]⟩):=by simp[zF]
theorem nL:∀(l:List (Int × ByteArray)) (n:Int) (i:Nat),(match V1 n (KT l) i with | some q=>q.2 | none=>Value.string ⟨#[]⟩)=.string (yP l n)
 | [],n,i=>rfl
 | z::r,n,i=>by
  have ih:=nL r n (i+1);show (match (if n=z.1 then some (i,Value.string z.2) else V1 n (KT r) (i+1)) with | some q=>q.2 | none=>Value.string ⟨#[]⟩)=_;unfold yP;by_cases h:n=z.1
  ·rw[zl h,List.find?_cons_of_pos (by simp[h])]
  rw[ze h,List.find?_cons_of_neg (by simpa using λe=>h e.symm)];exact ih
end Go.Proofs.YtdjoffgkndncfaaGreat
