/-
  Texts of the proof.
-/
import Derived.Test.YtjnpcddbgfmpcaaGreatDoorBMapsPBP
import Derived.Test.YtjnpcddbgfmpcaaGreatDoorBMapsPAZ
set_option linter.unusedVariables false
set_option linter.unusedSimpArgs false
namespace Go.Proofs.YtjnpcddbgfmpcaaGreatDoor
open Go Go.ChangeShapes Go.WideShapes Go.ChangeAt Go.RowKit Go.Joins Go.Deep
open Go.Proofs.YtjnpcddbgfmpcaaGreatDoor.Ft (V3 vV okV ValsAt inlineB legalB packF codeF typedF allF)
theorem vI:∀(l:List V3),yC l=true↔l.length % 2=0∧∀(j:Nat) v,l[2*j]? = some v→v.1=4
 | []=>by simp[yC]
 | [a]=>by simp[yC]
 | a::b::r=>by
  have ih:=vI r
  show (decide (a.1=4) && yC r)=true↔_
  rw[Bool.and_eq_true,ih,decide_eq_true_eq]
  have hl:(a::b::r).length % 2=r.length % 2:=by simp only[List.length_cons];omega
  rw[hl]
  constructor
  ·rintro ⟨h1,h2,h3⟩
   refine⟨h2,fun j v hv=>?_⟩
   match j,hv with
   | 0,hv=>simp at hv;rw[← hv];exact h1
   | j+1,hv=>
    rw[show 2*(j+1)=2*j+1+1 by omega] at hv
    exact h3 j v (by simpa using hv)
  ·rintro ⟨h1,h2⟩
   refine⟨h2 0 a rfl,h1,fun j v hv=>h2 (j+1) v ?_⟩
   rw[show 2*(j+1)=2*j+1+1 by omega]
   simpa using hv
theorem yO (N:List (Int × ByteArray)):∀(l:List V3),(kE N l).length=l.length / 2
 | []=>rfl
 | [a]=>by simp[kE]
 | a::b::r=>by
  show (_::kE N r).length=_
  rw[List.length_cons,yO N r]
  simp only[List.length_cons]
  omega
theorem QB (N:List (Int × ByteArray)):∀(l:List V3) (j:Nat) (k v:V3),l[2*j]? = some k→l[2*j+1]? = some v→(kE N l)[j]? = some (zM N k.2.2,k,v)
 | [],j,k,v,h,_=>by simp at h
 | [a],j,k,v,_,h=>by simp at h
 | a::b::r,0,k,v,h1,h2=>by
  simp at h1 h2
  subst h1 h2
  rfl
 | a::b::r,j+1,k,v,h1,h2=>by
  rw[show 2*(j+1)=2*j+1+1 by omega] at h1 h2
  show (_::kE N r)[j+1]? = _
  rw[List.getElem?_cons_succ]
  exact QB N r j k v (by simpa using h1) (by simpa using h2)
def z7 (N:List (Int × ByteArray)) (l:List V3) (i:Nat):List ByteArray:=((kE N l).map (·.1)).take ((i+1) / 2)
theorem gA (N:List (Int × ByteArray)) (l:List V3):z7 N l 0=[]:=by simp[z7]
theorem V7 (N:List (Int × ByteArray)) (l:List V3) (j:Nat):z7 N l (2*j+1+1)=z7 N l (2*j+1):=by
 unfold z7
 rw[show (2*j+1+1+1) / 2=(2*j+1+1) / 2 by omega]
theorem gB {N:List (Int × ByteArray)} {l:List V3} {j:Nat} {k:V3} (hl:l.length % 2=0) (hk:l[2*j]? = some k):z7 N l (2*j+1)=z7 N l (2*j)++[zM N k.2.2]:=by
 have h1:=(List.getElem?_eq_some_iff.1 hk).1
 obtain⟨v,hv⟩:∃v,l[2*j+1]? = some v:=⟨_,List.getElem?_eq_getElem (by omega)⟩
 have hp:=QB N l j k v hk hv
 unfold z7
 rw[show (2*j+1+1) / 2=j+1 by omega,show (2*j+1) / 2=j by omega,List.take_add_one]
 simp[hp]
theorem lK {N:List (Int × ByteArray)} {l:List V3} (hl:l.length % 2=0):z7 N l l.length=(kE N l).map (·.1):=by
 unfold z7
 rw[List.take_of_length_le (by rw[List.length_map,yO];omega)]
theorem cJ (N:List (Int × ByteArray)) (l:List V3) (i:Nat):(z7 N l i).length≤l.length:=by
 unfold z7
 rw[List.length_take,List.length_map,yO]
 omega
def yH (N:List (Int × ByteArray)) (l:List V3):List Nat:=(kW (((kE N l).map (·.1)).zip (List.range (kE N l).length))).map (·.2)
theorem nB {N:List (Int × ByteArray)} {l:List V3} (h:((kE N l).map (·.1)).Nodup):qJ ((kE N l).map (·.1))=((yH N l).map (fun (x:Nat)=>(x:Int)),0):=by
 unfold qJ yH
 rw[if_pos h,List.map_map,List.length_map]
 rfl
theorem eW {N:List (Int × ByteArray)} {l:List V3} {j:Nat} (h:j∈yH N l):j < l.length / 2:=by
 unfold yH at h
 obtain⟨p,hp,rfl⟩:=List.mem_map.1 h
 have h1:=((z8 _).mem_iff).1 hp
 have h2:=(List.of_mem_zip h1).2
 rw[← yO N l]
 exact List.mem_range.1 h2
theorem dA (N:List (Int × ByteArray)) (l:List V3):(yH N l).length=l.length / 2:=by
 unfold yH
 rw[List.length_map,(z8 _).length_eq,List.length_zip,List.length_map,List.length_range,yO]
 omega
theorem lL {α:Type} (es:List (ByteArray × α)) (z:ByteArray × α):((es.map (·.1)).zip (List.range es.length)).map (fun p=>(p.1,(es.getD p.2 z).2))=es:=by
 apply List.ext_getElem (by simp)
 intro i h1 h2
 simp only[List.getElem_map,List.getElem_zip,List.getElem_range,List.getD_eq_getElem?_getD,List.getElem?_eq_getElem h2,Option.getD_some]
theorem lM (N:List (Int × ByteArray)) (l:List V3) (z:ByteArray × V3 × V3):(yH N l).map (fun j=>((kE N l).getD j z).2)=(kW (kE N l)).map (·.2):=by
 have h:=VF (fun j=>((kE N l).getD j z).2) (((kE N l).map (·.1)).zip (List.range (kE N l).length))
 rw[lL] at h
 rw[← h,List.map_map]
 unfold yH
 rw[List.map_map]
 rfl
theorem nC (N:List (Int × ByteArray)) (l:List V3) (z:ByteArray):(yH N l).map (fun j=>((kE N l).map (·.1)).getD j z)=(kW (kE N l)).map (·.1):=by
 have h:=VF (fun j=>((kE N l).getD j (z,(0,0,0),(0,0,0))).2) (((kE N l).map (·.1)).zip (List.range (kE N l).length))
 rw[lL] at h
 rw[← h,List.map_map]
 unfold yH
 rw[List.map_map]
 refine List.map_congr_left fun p hp=>?_
 have h1:=((z8 _).mem_iff).1 hp
 obtain⟨i,hi,he⟩:=List.mem_iff_getElem.1 h1
 rw[List.getElem_zip,List.getElem_range] at he
 subst he
 have hi2:i < ((kE N l).map (·.1)).length:=by simp at hi⊢;omega
 simp only[Function.comp,List.getD_eq_getElem?_getD,List.getElem?_eq_getElem hi2,Option.getD_some]
theorem oH {N:List (Int × ByteArray)} {l:List V3} (hl:l.length % 2=0) (b:Nat) (hb:b=0∨b=1):(yH N l).map (fun j=>l.getD (2*j+b) (0,0,0))=(kW (kE N l)).map (fun e=>if b=0 then e.2.1 else e.2.2):=by
 have h:=congrArg (List.map fun p:V3 × V3=>if b=0 then p.1 else p.2) (lM N l (⟨#[]⟩,(0,0,0),(0,0,0)))
 rw[List.map_map,List.map_map] at h
 refine Eq.trans ?_ h
 refine List.map_congr_left fun j hj=>?_
 have hlt:=eW hj
 have hp:=QB N l j (l[2*j]'(by omega)) (l[2*j+1]'(by omega)) (List.getElem?_eq_getElem (by omega)) (List.getElem?_eq_getElem (by omega))
 simp only[Function.comp,List.getD_eq_getElem?_getD,hp,Option.getD_some]
 rcases hb with rfl|rfl
 ·simp[List.getElem?_eq_getElem (show 2*j < l.length by omega)]
 ·simp[List.getElem?_eq_getElem (show 2*j+1 < l.length by omega)]
theorem gC (l:List ByteArray) (k:ByteArray):kF (l++[k])=kF l++(k++⟨#[0]⟩):=by simp[kF]
theorem cK:∀(l:List (Int × ByteArray)) (n:Int) (i:Nat),(match ZA n (qM l) i with | some q=>q.2 | none=>Value.string ⟨#[]⟩)=.string (zM l n)
 | [],n,i=>rfl
 | z::r,n,i=>by
  have ih:=cK r n (i+1)
  show (match (if n=z.1 then some (i,Value.string z.2) else ZA n (qM r) (i+1)) with | some q=>q.2 | none=>Value.string ⟨#[]⟩)=_
  unfold zM
  by_cases h:n=z.1
  ·rw[if_pos h,List.find?_cons_of_pos (by simp[h])]
  ·rw[if_neg h,List.find?_cons_of_neg (by simpa using fun e=>h e.symm)]
   exact ih
end Go.Proofs.YtjnpcddbgfmpcaaGreatDoor
