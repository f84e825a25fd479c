/-
  Texts of the proof.
-/
import Derived.Test.YtdjoffgkndncfaaGreatDTurnedPBM
import Derived.Test.YtdjoffgkndncfaaGreatDTurnedPAW
set_option linter.unusedVariables false
set_option linter.unusedSimpArgs false
namespace Go.Proofs.YtdjoffgkndncfaaGreat
open Go Go.ChangeShapes Go.WideShapes Go.ChangeAt Go.RowKit Go.Joins Go.Deep
open Go.Proofs.YtdjoffgkndncfaaGreat.Ft (V3 vV okV ValsAt inlineB legalB packF codeF typedF allF)
theorem KL:∀(l:List V3),qR l=true↔l.length % 2=0∧∀(j:Nat) v,l[2*j]? = some v→v.1=4
 | []=>by simp[qR]
 | [a]=>by simp[qR]
 | a::b::r=>by
  have ih:=KL r;show (decide (a.1=4) && qR r)=true↔_;rw[Bool.and_eq_true,ih,decide_eq_true_eq];have hl:(a::b::r).length % 2=r.length % 2:=by simp only[List.length_cons];omega
  rw[hl];constructor
  ·rintro ⟨h1,h2,h3⟩;refine⟨h2,fun j v hv=>?_⟩
   match j,hv with
   | 0,hv=>simp at hv;rw[← hv];exact h1
   | j+1,hv=>
    rw[show 2*(j+1)=2*j+1+1 by omega] at hv;exact h3 j v (by simpa using hv)
  ·rintro ⟨h1,h2⟩;refine⟨h2 0 a rfl,h1,fun j v hv=>h2 (j+1) v ?_⟩;rw[show 2*(j+1)=2*j+1+1 by omega];simpa using hv
theorem qV (N:List (Int × ByteArray)):∀(l:List V3),(kT N l).length=l.length / 2
 | []=>rfl
 | [a]=>by simp[kT]
 | a::b::r=>by
  show (_::kT N r).length=_;rw[List.length_cons,qV N r];simp only[List.length_cons];omega
theorem aK (N:List (Int × ByteArray)):∀(l:List V3) (j:Nat) (k v:V3),l[2*j]? = some k→l[2*j+1]? = some v→(kT N l)[j]? = some (YM N k.2.2,k,v)
 | [],j,k,v,h,_=>by simp at h
 | [a],j,k,v,_,h=>by simp at h
 | a::b::r,0,k,v,h1,h2=>by
  simp at h1 h2;subst h1 h2;rfl
 | a::b::r,j+1,k,v,h1,h2=>by
  rw[show 2*(j+1)=2*j+1+1 by omega] at h1 h2;show (_::kT N r)[j+1]? = _;rw[List.getElem?_cons_succ];exact aK N r j k v (by simpa using h1) (by simpa using h2)
def y8 (N:List (Int × ByteArray)) (l:List V3) (i:Nat):List ByteArray:=((kT N l).map (·.1)).take ((i+1) / 2)
theorem nT (N:List (Int × ByteArray)) (l:List V3):y8 N l 0=[]:=by simp[y8]
theorem dN (N:List (Int × ByteArray)) (l:List V3) (j:Nat):y8 N l (2*j+1+1)=y8 N l (2*j+1):=by
 unfold y8;rw[show (2*j+1+1+1) / 2=(2*j+1+1) / 2 by omega]
theorem nU {N:List (Int × ByteArray)} {l:List V3} {j:Nat} {k:V3} (hl:l.length % 2=0) (hk:l[2*j]? = some k):y8 N l (2*j+1)=y8 N l (2*j)++[YM N k.2.2]:=by
 have h1:=(List.getElem?_eq_some_iff.1 hk).1;obtain⟨v,hv⟩:∃v,l[2*j+1]? = some v:=⟨_,List.getElem?_eq_getElem zo⟩;have hp:=aK N l j k v hk hv;unfold y8;rw[show (2*j+1+1) / 2=j+1 by omega,show (2*j+1) / 2=j by omega,List.take_add_one];simp[hp]
theorem rV {N:List (Int × ByteArray)} {l:List V3} (hl:l.length % 2=0):y8 N l l.length=(kT N l).map (·.1):=by
 unfold y8;rw[List.take_of_length_le (by rw[List.length_map,qV];omega)]
theorem gM (N:List (Int × ByteArray)) (l:List V3) (i:Nat):(y8 N l i).length≤l.length:=by
 unfold y8;rw[List.length_take,List.length_map,qV];omega
def qO (N:List (Int × ByteArray)) (l:List V3):List Nat:=(vD (((kT N l).map (·.1)).zip (List.range (kT N l).length))).map (·.2)
theorem uA {N:List (Int × ByteArray)} {l:List V3} (h:((kT N l).map (·.1)).Nodup):JG ((kT N l).map (·.1))=((qO N l).map (fun (x:Nat)=>(x:Int)),0):=by
 unfold JG qO;rw[if_pos h,List.map_map,List.length_map];rfl
theorem l6 {N:List (Int × ByteArray)} {l:List V3} {j:Nat} (h:j∈qO N l):j < l.length / 2:=by
 unfold qO at h;obtain⟨p,hp,rfl⟩:=List.mem_map.1 h;have h1:=((vG _).mem_iff).1 hp;have h2:=(List.of_mem_zip h1).2;rw[← qV N l];exact List.mem_range.1 h2
theorem iE (N:List (Int × ByteArray)) (l:List V3):(qO N l).length=l.length / 2:=by
 unfold qO;rw[List.length_map,(vG _).length_eq,List.length_zip,List.length_map,List.length_range,qV];omega
theorem rW {α:Type} (es:List (ByteArray × α)) (z:ByteArray × α):((es.map (·.1)).zip (List.range es.length)).map (fun p=>(p.1,(es.getD p.2 z).2))=es:=by
 apply List.ext_getElem zp2;intro i h1 h2;simp only[List.getElem_map,List.getElem_zip,List.getElem_range,List.getD_eq_getElem?_getD,List.getElem?_eq_getElem h2,Option.getD_some]
theorem rX (N:List (Int × ByteArray)) (l:List V3) (z:ByteArray × V3 × V3):(qO N l).map (fun j=>((kT N l).getD j z).2)=(vD (kT N l)).map (·.2):=by
 have h:=VJ (fun j=>((kT N l).getD j z).2) (((kT N l).map (·.1)).zip (List.range (kT N l).length));rw[rW] at h;rw[← h,List.map_map];unfold qO;rw[List.map_map];rfl
theorem uB (N:List (Int × ByteArray)) (l:List V3) (z:ByteArray):(qO N l).map (fun j=>((kT N l).map (·.1)).getD j z)=(vD (kT N l)).map (·.1):=by
 have h:=VJ (fun j=>((kT N l).getD j (z,(0,0,0),(0,0,0))).2) (((kT N l).map (·.1)).zip (List.range (kT N l).length));rw[rW] at h;rw[← h,List.map_map];unfold qO;rw[List.map_map];refine List.map_congr_left fun p hp=>?_;have h1:=((vG _).mem_iff).1 hp;obtain⟨i,hi,he⟩:=List.mem_iff_getElem.1 h1;rw[List.getElem_zip,List.getElem_range] at he;subst he;have hi2:i < ((kT N l).map (·.1)).length:=by simp at hi⊢;omega
 simp only[Function.comp,List.getD_eq_getElem?_getD,List.getElem?_eq_getElem hi2,Option.getD_some]
theorem wO {N:List (Int × ByteArray)} {l:List V3} (hl:l.length % 2=0) (b:Nat) (hb:b=0∨b=1):(qO N l).map (fun j=>l.getD (2*j+b) (0,0,0))=(vD (kT N l)).map (fun e=>if b=0 then e.2.1 else e.2.2):=by
 have h:=congrArg (List.map fun p:V3 × V3=>if b=0 then p.1 else p.2) (rX N l (⟨#[]⟩,(0,0,0),(0,0,0)));rw[List.map_map,List.map_map] at h;refine Eq.trans ?_ h;refine List.map_congr_left fun j hj=>?_;have hlt:=l6 hj;have hp:=aK N l j (l[2*j]' zo) (l[2*j+1]' zo) (List.getElem?_eq_getElem zo) (List.getElem?_eq_getElem zo);simp only[Function.comp,List.getD_eq_getElem?_getD,hp,Option.getD_some];rcases hb with rfl|rfl
 ·simp[List.getElem?_eq_getElem (show 2*j < l.length by omega)]
 ·simp[List.getElem?_eq_getElem (show 2*j+1 < l.length by omega)]
theorem nV (l:List ByteArray) (k:ByteArray):yH (l++[k])=yH l++(k++⟨#[0]⟩):=by simp[yH]
theorem gN:∀(l:List (Int × ByteArray)) (n:Int) (i:Nat),(match QD n (JK l) i with | some q=>q.2 | none=>Value.string ⟨#[]⟩)=.string (YM l n)
 | [],n,i=>rfl
 | z::r,n,i=>by
  have ih:=gN r n (i+1);show (match (if n=z.1 then some (i,Value.string z.2) else QD n (JK r) (i+1)) with | some q=>q.2 | none=>Value.string ⟨#[]⟩)=_;unfold YM;by_cases h:n=z.1
  ·rw[if_pos h,List.find?_cons_of_pos (by simp[h])]
  ·rw[if_neg h,List.find?_cons_of_neg (by simpa using fun e=>h e.symm)];exact ih
end Go.Proofs.YtdjoffgkndncfaaGreat
