/-
  Texts of the proof.
-/
import Derived.Test.YtjnpcddbgfmpcaaGreatDoorBListsPBP
import Derived.Test.YtjnpcddbgfmpcaaGreatDoorBListsPAZ
set_option linter.unusedVariables false
set_option linter.unusedSimpArgs false
namespace Go.Proofs.YtjnpcddbgfmpcaaGreatDoor
open Go Go.ChangeShapes Go.WideShapes Go.ChangeAt Go.RowKit Go.Joins Go.Deep
open Go.Proofs.YtjnpcddbgfmpcaaGreatDoor.Ft (V3 vV okV ValsAt inlineB legalB packF codeF typedF allF)
theorem vL:∀(l:List V3),yE l=true↔l.length % 2=0∧∀(j:Nat) v,l[2*j]? = some v→v.1=4
 | []=>by simp[yE]
 | [a]=>by simp[yE]
 | a::b::r=>by
  have ih:=vL r
  show (decide (a.1=4) && yE r)=true↔_
  rw[Bool.and_eq_true,ih,decide_eq_true_eq]
  have hl:(a::b::r).length % 2=r.length % 2:=by simp only[List.length_cons];omega
  rw[hl]
  constructor
  ·rintro ⟨h1,h2,h3⟩
   refine⟨h2,fun j v hv=>?_⟩
   match j,hv with
   | 0,hv=>simp at hv;rw[← hv];exact h1
   | j+1,hv=>
    rw[show 2*(j+1)=2*j+1+1 by omega] at hv
    exact h3 j v (by simpa using hv)
  ·rintro ⟨h1,h2⟩
   refine⟨h2 0 a rfl,h1,fun j v hv=>h2 (j+1) v ?_⟩
   rw[show 2*(j+1)=2*j+1+1 by omega]
   simpa using hv
theorem yO (N:List (Int × ByteArray)):∀(l:List V3),(kD N l).length=l.length / 2
 | []=>rfl
 | [a]=>by simp[kD]
 | a::b::r=>by
  show (_::kD N r).length=_
  rw[List.length_cons,yO N r]
  simp only[List.length_cons]
  omega
theorem QB (N:List (Int × ByteArray)):∀(l:List V3) (j:Nat) (k v:V3),l[2*j]? = some k→l[2*j+1]? = some v→(kD N l)[j]? = some (zN N k.2.2,k,v)
 | [],j,k,v,h,_=>by simp at h
 | [a],j,k,v,_,h=>by simp at h
 | a::b::r,0,k,v,h1,h2=>by
  simp at h1 h2
  subst h1 h2
  rfl
 | a::b::r,j+1,k,v,h1,h2=>by
  rw[show 2*(j+1)=2*j+1+1 by omega] at h1 h2
  show (_::kD N r)[j+1]? = _
  rw[List.getElem?_cons_succ]
  exact QB N r j k v (by simpa using h1) (by simpa using h2)
def yA (N:List (Int × ByteArray)) (l:List V3) (i:Nat):List ByteArray:=((kD N l).map (·.1)).take ((i+1) / 2)
theorem gE (N:List (Int × ByteArray)) (l:List V3):yA N l 0=[]:=by simp[yA]
theorem V8 (N:List (Int × ByteArray)) (l:List V3) (j:Nat):yA N l (2*j+1+1)=yA N l (2*j+1):=by
 unfold yA
 rw[show (2*j+1+1+1) / 2=(2*j+1+1) / 2 by omega]
theorem gF {N:List (Int × ByteArray)} {l:List V3} {j:Nat} {k:V3} (hl:l.length % 2=0) (hk:l[2*j]? = some k):yA N l (2*j+1)=yA N l (2*j)++[zN N k.2.2]:=by
 have h1:=(List.getElem?_eq_some_iff.1 hk).1
 obtain⟨v,hv⟩:∃v,l[2*j+1]? = some v:=⟨_,List.getElem?_eq_getElem (by omega)⟩
 have hp:=QB N l j k v hk hv
 unfold yA
 rw[show (2*j+1+1) / 2=j+1 by omega,show (2*j+1) / 2=j by omega,List.take_add_one]
 simp[hp]
theorem lH {N:List (Int × ByteArray)} {l:List V3} (hl:l.length % 2=0):yA N l l.length=(kD N l).map (·.1):=by
 unfold yA
 rw[List.take_of_length_le (by rw[List.length_map,yO];omega)]
theorem cM (N:List (Int × ByteArray)) (l:List V3) (i:Nat):(yA N l i).length≤l.length:=by
 unfold yA
 rw[List.length_take,List.length_map,yO]
 omega
def yK (N:List (Int × ByteArray)) (l:List V3):List Nat:=(kM (((kD N l).map (·.1)).zip (List.range (kD N l).length))).map (·.2)
theorem mV {N:List (Int × ByteArray)} {l:List V3} (h:((kD N l).map (·.1)).Nodup):qJ ((kD N l).map (·.1))=((yK N l).map (fun (x:Nat)=>(x:Int)),0):=by
 unfold qJ yK
 rw[if_pos h,List.map_map,List.length_map]
 rfl
theorem eV {N:List (Int × ByteArray)} {l:List V3} {j:Nat} (h:j∈yK N l):j < l.length / 2:=by
 unfold yK at h
 obtain⟨p,hp,rfl⟩:=List.mem_map.1 h
 have h1:=((zH _).mem_iff).1 hp
 have h2:=(List.of_mem_zip h1).2
 rw[← yO N l]
 exact List.mem_range.1 h2
theorem dF (N:List (Int × ByteArray)) (l:List V3):(yK N l).length=l.length / 2:=by
 unfold yK
 rw[List.length_map,(zH _).length_eq,List.length_zip,List.length_map,List.length_range,yO]
 omega
theorem lI {α:Type} (es:List (ByteArray × α)) (z:ByteArray × α):((es.map (·.1)).zip (List.range es.length)).map (fun p=>(p.1,(es.getD p.2 z).2))=es:=by
 apply List.ext_getElem (by simp)
 intro i h1 h2
 simp only[List.getElem_map,List.getElem_zip,List.getElem_range,List.getD_eq_getElem?_getD,List.getElem?_eq_getElem h2,Option.getD_some]
theorem lJ (N:List (Int × ByteArray)) (l:List V3) (z:ByteArray × V3 × V3):(yK N l).map (fun j=>((kD N l).getD j z).2)=(kM (kD N l)).map (·.2):=by
 have h:=VE (fun j=>((kD N l).getD j z).2) (((kD N l).map (·.1)).zip (List.range (kD N l).length))
 rw[lI] at h
 rw[← h,List.map_map]
 unfold yK
 rw[List.map_map]
 rfl
theorem mW (N:List (Int × ByteArray)) (l:List V3) (z:ByteArray):(yK N l).map (fun j=>((kD N l).map (·.1)).getD j z)=(kM (kD N l)).map (·.1):=by
 have h:=VE (fun j=>((kD N l).getD j (z,(0,0,0),(0,0,0))).2) (((kD N l).map (·.1)).zip (List.range (kD N l).length))
 rw[lI] at h
 rw[← h,List.map_map]
 unfold yK
 rw[List.map_map]
 refine List.map_congr_left fun p hp=>?_
 have h1:=((zH _).mem_iff).1 hp
 obtain⟨i,hi,he⟩:=List.mem_iff_getElem.1 h1
 rw[List.getElem_zip,List.getElem_range] at he
 subst he
 have hi2:i < ((kD N l).map (·.1)).length:=by simp at hi⊢;omega
 simp only[Function.comp,List.getD_eq_getElem?_getD,List.getElem?_eq_getElem hi2,Option.getD_some]
theorem nW {N:List (Int × ByteArray)} {l:List V3} (hl:l.length % 2=0) (b:Nat) (hb:b=0∨b=1):(yK N l).map (fun j=>l.getD (2*j+b) (0,0,0))=(kM (kD N l)).map (fun e=>if b=0 then e.2.1 else e.2.2):=by
 have h:=congrArg (List.map fun p:V3 × V3=>if b=0 then p.1 else p.2) (lJ N l (⟨#[]⟩,(0,0,0),(0,0,0)))
 rw[List.map_map,List.map_map] at h
 refine Eq.trans ?_ h
 refine List.map_congr_left fun j hj=>?_
 have hlt:=eV hj
 have hp:=QB N l j (l[2*j]'(by omega)) (l[2*j+1]'(by omega)) (List.getElem?_eq_getElem (by omega)) (List.getElem?_eq_getElem (by omega))
 simp only[Function.comp,List.getD_eq_getElem?_getD,hp,Option.getD_some]
 rcases hb with rfl|rfl
 ·simp[List.getElem?_eq_getElem (show 2*j < l.length by omega)]
 ·simp[List.getElem?_eq_getElem (show 2*j+1 < l.length by omega)]
theorem gG (l:List ByteArray) (k:ByteArray):j4 (l++[k])=j4 l++(k++⟨#[0]⟩):=by simp[j4]
theorem cN:∀(l:List (Int × ByteArray)) (n:Int) (i:Nat),(match ZD n (qM l) i with | some q=>q.2 | none=>Value.string ⟨#[]⟩)=.string (zN l n)
 | [],n,i=>rfl
 | z::r,n,i=>by
  have ih:=cN r n (i+1)
  show (match (if n=z.1 then some (i,Value.string z.2) else ZD n (qM r) (i+1)) with | some q=>q.2 | none=>Value.string ⟨#[]⟩)=_
  unfold zN
  by_cases h:n=z.1
  ·rw[if_pos h,List.find?_cons_of_pos (by simp[h])]
  ·rw[if_neg h,List.find?_cons_of_neg (by simpa using fun e=>h e.symm)]
   exact ih
end Go.Proofs.YtjnpcddbgfmpcaaGreatDoor
