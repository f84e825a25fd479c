/-
  Texts of the proof.
-/
import Derived.Test.YtjnpcddbgfmpcaaGreatBTextsPBE
import Derived.Test.YtjnpcddbgfmpcaaGreatBTextsPBF
set_option linter.unusedVariables false
set_option linter.unusedSimpArgs false
namespace Go.Proofs.YtjnpcddbgfmpcaaGreat
open Go Go.ChangeShapes Go.WideShapes Go.ChangeAt Go.RowKit Go.Joins Go.Deep
open Go.Proofs.YtjnpcddbgfmpcaaGreat.Ft (V3 vV okV ValsAt inlineB legalB packF codeF typedF allF)
theorem qZ:∀(l:List V3),z7 l=true↔l.length % 2=0∧∀(j:Nat) v,l[2*j]? = some v→v.1=4
 | []=>by simp[z7]
 | [a]=>by simp[z7]
 | a::b::r=>by
  have ih:=qZ r
  show (decide (a.1=4) && z7 r)=true↔_
  rw[Bool.and_eq_true,ih,decide_eq_true_eq]
  have hl:(a::b::r).length % 2=r.length % 2:=by simp only[List.length_cons];omega
  rw[hl]
  constructor
  ·rintro ⟨h1,h2,h3⟩
   refine⟨h2,fun j v hv=>?_⟩
   match j,hv with
   | 0,hv=>simp at hv;rw[← hv];exact h1
   | j+1,hv=>
    rw[show 2*(j+1)=2*j+1+1 by omega] at hv
    exact h3 j v (by simpa using hv)
  ·rintro ⟨h1,h2⟩
   refine⟨h2 0 a rfl,h1,fun j v hv=>h2 (j+1) v ?_⟩
   rw[show 2*(j+1)=2*j+1+1 by omega]
   simpa using hv
theorem yC (N:List (Int × ByteArray)):∀(l:List V3),(kA N l).length=l.length / 2
 | []=>rfl
 | [a]=>by simp[kA]
 | a::b::r=>by
  show (_::kA N r).length=_
  rw[List.length_cons,yC N r]
  simp only[List.length_cons]
  omega
theorem ZQ (N:List (Int × ByteArray)):∀(l:List V3) (j:Nat) (k v:V3),l[2*j]? = some k→l[2*j+1]? = some v→(kA N l)[j]? = some (JK N k.2.2,k,v)
 | [],j,k,v,h,_=>by simp at h
 | [a],j,k,v,_,h=>by simp at h
 | a::b::r,0,k,v,h1,h2=>by
  simp at h1 h2
  subst h1 h2
  rfl
 | a::b::r,j+1,k,v,h1,h2=>by
  rw[show 2*(j+1)=2*j+1+1 by omega] at h1 h2
  show (_::kA N r)[j+1]? = _
  rw[List.getElem?_cons_succ]
  exact ZQ N r j k v (by simpa using h1) (by simpa using h2)
def zT (N:List (Int × ByteArray)) (l:List V3) (i:Nat):List ByteArray:=((kA N l).map (·.1)).take ((i+1) / 2)
theorem cI (N:List (Int × ByteArray)) (l:List V3):zT N l 0=[]:=by simp[zT]
theorem QA (N:List (Int × ByteArray)) (l:List V3) (j:Nat):zT N l (2*j+1+1)=zT N l (2*j+1):=by
 unfold zT
 rw[show (2*j+1+1+1) / 2=(2*j+1+1) / 2 by omega]
theorem cJ {N:List (Int × ByteArray)} {l:List V3} {j:Nat} {k:V3} (hl:l.length % 2=0) (hk:l[2*j]? = some k):zT N l (2*j+1)=zT N l (2*j)++[JK N k.2.2]:=by
 have h1:=(List.getElem?_eq_some_iff.1 hk).1
 obtain⟨v,hv⟩:∃v,l[2*j+1]? = some v:=⟨_,List.getElem?_eq_getElem (by omega)⟩
 have hp:=ZQ N l j k v hk hv
 unfold zT
 rw[show (2*j+1+1) / 2=j+1 by omega,show (2*j+1) / 2=j by omega,List.take_add_one]
 simp[hp]
theorem eS {N:List (Int × ByteArray)} {l:List V3} (hl:l.length % 2=0):zT N l l.length=(kA N l).map (·.1):=by
 unfold zT
 rw[List.take_of_length_le (by rw[List.length_map,yC];omega)]
theorem VR (N:List (Int × ByteArray)) (l:List V3) (i:Nat):(zT N l i).length≤l.length:=by
 unfold zT
 rw[List.length_take,List.length_map,yC]
 omega
def zZ (N:List (Int × ByteArray)) (l:List V3):List Nat:=(y1 (((kA N l).map (·.1)).zip (List.range (kA N l).length))).map (·.2)
theorem gK {N:List (Int × ByteArray)} {l:List V3} (h:((kA N l).map (·.1)).Nodup):y7 ((kA N l).map (·.1))=((zZ N l).map (fun (x:Nat)=>(x:Int)),0):=by
 unfold y7 zZ
 rw[if_pos h,List.map_map,List.length_map]
 rfl
theorem bL {N:List (Int × ByteArray)} {l:List V3} {j:Nat} (h:j∈zZ N l):j < l.length / 2:=by
 unfold zZ at h
 obtain⟨p,hp,rfl⟩:=List.mem_map.1 h
 have h1:=((qW _).mem_iff).1 hp
 have h2:=(List.of_mem_zip h1).2
 rw[← yC N l]
 exact List.mem_range.1 h2
theorem V8 (N:List (Int × ByteArray)) (l:List V3):(zZ N l).length=l.length / 2:=by
 unfold zZ
 rw[List.length_map,(qW _).length_eq,List.length_zip,List.length_map,List.length_range,yC]
 omega
theorem eT {α:Type} (es:List (ByteArray × α)) (z:ByteArray × α):((es.map (·.1)).zip (List.range es.length)).map (fun p=>(p.1,(es.getD p.2 z).2))=es:=by
 apply List.ext_getElem (by simp)
 intro i h1 h2
 simp only[List.getElem_map,List.getElem_zip,List.getElem_range,List.getD_eq_getElem?_getD,List.getElem?_eq_getElem h2,Option.getD_some]
theorem eU (N:List (Int × ByteArray)) (l:List V3) (z:ByteArray × V3 × V3):(zZ N l).map (fun j=>((kA N l).getD j z).2)=(y1 (kA N l)).map (·.2):=by
 have h:=YT (fun j=>((kA N l).getD j z).2) (((kA N l).map (·.1)).zip (List.range (kA N l).length))
 rw[eT] at h
 rw[← h,List.map_map]
 unfold zZ
 rw[List.map_map]
 rfl
theorem gL (N:List (Int × ByteArray)) (l:List V3) (z:ByteArray):(zZ N l).map (fun j=>((kA N l).map (·.1)).getD j z)=(y1 (kA N l)).map (·.1):=by
 have h:=YT (fun j=>((kA N l).getD j (z,(0,0,0),(0,0,0))).2) (((kA N l).map (·.1)).zip (List.range (kA N l).length))
 rw[eT] at h
 rw[← h,List.map_map]
 unfold zZ
 rw[List.map_map]
 refine List.map_congr_left fun p hp=>?_
 have h1:=((qW _).mem_iff).1 hp
 obtain⟨i,hi,he⟩:=List.mem_iff_getElem.1 h1
 rw[List.getElem_zip,List.getElem_range] at he
 subst he
 have hi2:i < ((kA N l).map (·.1)).length:=by simp at hi⊢;omega
 simp only[Function.comp,List.getD_eq_getElem?_getD,List.getElem?_eq_getElem hi2,Option.getD_some]
theorem iH {N:List (Int × ByteArray)} {l:List V3} (hl:l.length % 2=0) (b:Nat) (hb:b=0∨b=1):(zZ N l).map (fun j=>l.getD (2*j+b) (0,0,0))=(y1 (kA N l)).map (fun e=>if b=0 then e.2.1 else e.2.2):=by
 have h:=congrArg (List.map fun p:V3 × V3=>if b=0 then p.1 else p.2) (eU N l (⟨#[]⟩,(0,0,0),(0,0,0)))
 rw[List.map_map,List.map_map] at h
 refine Eq.trans ?_ h
 refine List.map_congr_left fun j hj=>?_
 have hlt:=bL hj
 have hp:=ZQ N l j (l[2*j]'(by omega)) (l[2*j+1]'(by omega)) (List.getElem?_eq_getElem (by omega)) (List.getElem?_eq_getElem (by omega))
 simp only[Function.comp,List.getD_eq_getElem?_getD,hp,Option.getD_some]
 rcases hb with rfl|rfl
 ·simp[List.getElem?_eq_getElem (show 2*j < l.length by omega)]
 ·simp[List.getElem?_eq_getElem (show 2*j+1 < l.length by omega)]
theorem cK (l:List ByteArray) (k:ByteArray):k7 (l++[k])=k7 l++(k++⟨#[0]⟩):=by simp[k7]
theorem VS:∀(l:List (Int × ByteArray)) (n:Int) (i:Nat),(match J7 n (qA l) i with | some q=>q.2 | none=>Value.string ⟨#[]⟩)=.string (JK l n)
 | [],n,i=>rfl
 | z::r,n,i=>by
  have ih:=VS r n (i+1)
  show (match (if n=z.1 then some (i,Value.string z.2) else J7 n (qA r) (i+1)) with | some q=>q.2 | none=>Value.string ⟨#[]⟩)=_
  unfold JK
  by_cases h:n=z.1
  ·rw[if_pos h,List.find?_cons_of_pos (by simp[h])]
  ·rw[if_neg h,List.find?_cons_of_neg (by simpa using fun e=>h e.symm)]
   exact ih
end Go.Proofs.YtjnpcddbgfmpcaaGreat
