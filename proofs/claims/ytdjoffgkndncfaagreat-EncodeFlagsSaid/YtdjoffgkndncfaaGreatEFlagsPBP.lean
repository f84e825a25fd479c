/-
  Texts of the proof.
-/
import Derived.Test.YtdjoffgkndncfaaGreatEFlagsPBM
import Derived.Test.YtdjoffgkndncfaaGreatEFlagsPAW
set_option linter.unusedVariables false
set_option linter.unusedSimpArgs false
namespace Go.Proofs.YtdjoffgkndncfaaGreat
open Go Go.ChangeShapes Go.WideShapes Go.ChangeAt Go.RowKit Go.Joins Go.Deep
open Go.Proofs.YtdjoffgkndncfaaGreat.Ft (V3 vV okV ValsAt inlineB legalB packF codeF typedF allF)
theorem ZK:∀(l:List V3),vC l=true↔l.length % 2=0∧∀(j:Nat) v,l[2*j]? = some v→v.1=4
 | []=>by simp[vC]
 | [a]=>by simp[vC]
 | a::b::r=>by
  have ih:=ZK r
  show (decide (a.1=4) && vC r)=true↔_
  rw[Bool.and_eq_true,ih,decide_eq_true_eq]
  have hl:(a::b::r).length % 2=r.length % 2:=by simp only[List.length_cons];omega
  rw[hl]
  constructor
  ·rintro ⟨h1,h2,h3⟩
   refine⟨h2,fun j v hv=>?_⟩
   match j,hv with
   | 0,hv=>simp at hv;rw[← hv];exact h1
   | j+1,hv=>
    rw[show 2*(j+1)=2*j+1+1 by omega] at hv
    exact h3 j v (by simpa using hv)
  ·rintro ⟨h1,h2⟩
   refine⟨h2 0 a rfl,h1,fun j v hv=>h2 (j+1) v ?_⟩
   rw[show 2*(j+1)=2*j+1+1 by omega]
   simpa using hv
theorem vS (N:List (Int × ByteArray)):∀(l:List V3),(zD N l).length=l.length / 2
 | []=>rfl
 | [a]=>by simp[zD]
 | a::b::r=>by
  show (_::zD N r).length=_
  rw[List.length_cons,vS N r]
  simp only[List.length_cons]
  omega
theorem bS (N:List (Int × ByteArray)):∀(l:List V3) (j:Nat) (k v:V3),l[2*j]? = some k→l[2*j+1]? = some v→(zD N l)[j]? = some (z6 N k.2.2,k,v)
 | [],j,k,v,h,_=>by simp at h
 | [a],j,k,v,_,h=>by simp at h
 | a::b::r,0,k,v,h1,h2=>by
  simp at h1 h2
  subst h1 h2
  rfl
 | a::b::r,j+1,k,v,h1,h2=>by
  rw[show 2*(j+1)=2*j+1+1 by omega] at h1 h2
  show (_::zD N r)[j+1]? = _
  rw[List.getElem?_cons_succ]
  exact bS N r j k v (by simpa using h1) (by simpa using h2)
def qT (N:List (Int × ByteArray)) (l:List V3) (i:Nat):List ByteArray:=((zD N l).map (·.1)).take ((i+1) / 2)
theorem rB (N:List (Int × ByteArray)) (l:List V3):qT N l 0=[]:=by simp[qT]
theorem eT (N:List (Int × ByteArray)) (l:List V3) (j:Nat):qT N l (2*j+1+1)=qT N l (2*j+1):=by
 unfold qT
 rw[show (2*j+1+1+1) / 2=(2*j+1+1) / 2 by omega]
theorem rC {N:List (Int × ByteArray)} {l:List V3} {j:Nat} {k:V3} (hl:l.length % 2=0) (hk:l[2*j]? = some k):qT N l (2*j+1)=qT N l (2*j)++[z6 N k.2.2]:=by
 have h1:=(List.getElem?_eq_some_iff.1 hk).1
 obtain⟨v,hv⟩:∃v,l[2*j+1]? = some v:=⟨_,List.getElem?_eq_getElem (by omega)⟩
 have hp:=bS N l j k v hk hv
 unfold qT
 rw[show (2*j+1+1) / 2=j+1 by omega,show (2*j+1) / 2=j by omega,List.take_add_one]
 simp[hp]
theorem uP {N:List (Int × ByteArray)} {l:List V3} (hl:l.length % 2=0):qT N l l.length=(zD N l).map (·.1):=by
 unfold qT
 rw[List.take_of_length_le (by rw[List.length_map,vS];omega)]
theorem lJ (N:List (Int × ByteArray)) (l:List V3) (i:Nat):(qT N l i).length≤l.length:=by
 unfold qT
 rw[List.length_take,List.length_map,vS]
 omega
def vK (N:List (Int × ByteArray)) (l:List V3):List Nat:=(vH (((zD N l).map (·.1)).zip (List.range (zD N l).length))).map (·.2)
theorem AG {N:List (Int × ByteArray)} {l:List V3} (h:((zD N l).map (·.1)).Nodup):KH ((zD N l).map (·.1))=((vK N l).map (fun (x:Nat)=>(x:Int)),0):=by
 unfold KH vK
 rw[if_pos h,List.map_map,List.length_map]
 rfl
theorem oH {N:List (Int × ByteArray)} {l:List V3} {j:Nat} (h:j∈vK N l):j < l.length / 2:=by
 unfold vK at h
 obtain⟨p,hp,rfl⟩:=List.mem_map.1 h
 have h1:=((qD _).mem_iff).1 hp
 have h2:=(List.of_mem_zip h1).2
 rw[← vS N l]
 exact List.mem_range.1 h2
theorem mB (N:List (Int × ByteArray)) (l:List V3):(vK N l).length=l.length / 2:=by
 unfold vK
 rw[List.length_map,(qD _).length_eq,List.length_zip,List.length_map,List.length_range,vS]
 omega
theorem uQ {α:Type} (es:List (ByteArray × α)) (z:ByteArray × α):((es.map (·.1)).zip (List.range es.length)).map (fun p=>(p.1,(es.getD p.2 z).2))=es:=by
 apply List.ext_getElem (by simp)
 intro i h1 h2
 simp only[List.getElem_map,List.getElem_zip,List.getElem_range,List.getD_eq_getElem?_getD,List.getElem?_eq_getElem h2,Option.getD_some]
theorem uR (N:List (Int × ByteArray)) (l:List V3) (z:ByteArray × V3 × V3):(vK N l).map (fun j=>((zD N l).getD j z).2)=(vH (zD N l)).map (·.2):=by
 have h:=aC (fun j=>((zD N l).getD j z).2) (((zD N l).map (·.1)).zip (List.range (zD N l).length))
 rw[uQ] at h
 rw[← h,List.map_map]
 unfold vK
 rw[List.map_map]
 rfl
theorem AH (N:List (Int × ByteArray)) (l:List V3) (z:ByteArray):(vK N l).map (fun j=>((zD N l).map (·.1)).getD j z)=(vH (zD N l)).map (·.1):=by
 have h:=aC (fun j=>((zD N l).getD j (z,(0,0,0),(0,0,0))).2) (((zD N l).map (·.1)).zip (List.range (zD N l).length))
 rw[uQ] at h
 rw[← h,List.map_map]
 unfold vK
 rw[List.map_map]
 refine List.map_congr_left fun p hp=>?_
 have h1:=((qD _).mem_iff).1 hp
 obtain⟨i,hi,he⟩:=List.mem_iff_getElem.1 h1
 rw[List.getElem_zip,List.getElem_range] at he
 subst he
 have hi2:i < ((zD N l).map (·.1)).length:=by simp at hi⊢;omega
 simp only[Function.comp,List.getD_eq_getElem?_getD,List.getElem?_eq_getElem hi2,Option.getD_some]
theorem BN {N:List (Int × ByteArray)} {l:List V3} (hl:l.length % 2=0) (b:Nat) (hb:b=0∨b=1):(vK N l).map (fun j=>l.getD (2*j+b) (0,0,0))=(vH (zD N l)).map (fun e=>if b=0 then e.2.1 else e.2.2):=by
 have h:=congrArg (List.map fun p:V3 × V3=>if b=0 then p.1 else p.2) (uR N l (⟨#[]⟩,(0,0,0),(0,0,0)))
 rw[List.map_map,List.map_map] at h
 refine Eq.trans ?_ h
 refine List.map_congr_left fun j hj=>?_
 have hlt:=oH hj
 have hp:=bS N l j (l[2*j]'(by omega)) (l[2*j+1]'(by omega)) (List.getElem?_eq_getElem (by omega)) (List.getElem?_eq_getElem (by omega))
 simp only[Function.comp,List.getD_eq_getElem?_getD,hp,Option.getD_some]
 rcases hb with rfl|rfl
 ·simp[List.getElem?_eq_getElem (show 2*j < l.length by omega)]
 ·simp[List.getElem?_eq_getElem (show 2*j+1 < l.length by omega)]
theorem rD (l:List ByteArray) (k:ByteArray):kO (l++[k])=kO l++(k++⟨#[0]⟩):=by simp[kO]
theorem lK:∀(l:List (Int × ByteArray)) (n:Int) (i:Nat),(match Q4 n (KK l) i with | some q=>q.2 | none=>Value.string ⟨#[]⟩)=.string (z6 l n)
 | [],n,i=>rfl
 | z::r,n,i=>by
  have ih:=lK r n (i+1)
  show (match (if n=z.1 then some (i,Value.string z.2) else Q4 n (KK r) (i+1)) with | some q=>q.2 | none=>Value.string ⟨#[]⟩)=_
  unfold z6
  by_cases h:n=z.1
  ·rw[if_pos h,List.find?_cons_of_pos (by simp[h])]
  ·rw[if_neg h,List.find?_cons_of_neg (by simpa using fun e=>h e.symm)]
   exact ih
end Go.Proofs.YtdjoffgkndncfaaGreat
