/-
  Texts of the proof.
-/
import Derived.Test.YtdjoffgkndncfaaGreatECappedPBM
import Derived.Test.YtdjoffgkndncfaaGreatECappedPAW
set_option linter.unusedVariables false
set_option linter.unusedSimpArgs false
namespace Go.Proofs.YtdjoffgkndncfaaGreat
open Go Go.ChangeShapes Go.WideShapes Go.ChangeAt Go.RowKit Go.Joins Go.Deep
open Go.Proofs.YtdjoffgkndncfaaGreat.Ft (V3 vV okV ValsAt inlineB legalB packF codeF typedF allF)
theorem keyTys_iff:∀(l:List V3),keyTys l=true↔l.length % 2=0∧∀(j:Nat) v,l[2*j]? = some v→v.1=4
 | []=>by simp[keyTys]
 | [a]=>by simp[keyTys]
 | a::b::r=>by
  have ih:=keyTys_iff r
  show (decide (a.1=4) && keyTys r)=true↔_
  rw[Bool.and_eq_true,ih,decide_eq_true_eq]
  have hl:(a::b::r).length % 2=r.length % 2:=by simp only[List.length_cons];omega
  rw[hl]
  constructor
  ·rintro ⟨h1,h2,h3⟩
   refine⟨h2,fun j v hv=>?_⟩
   match j,hv with
   | 0,hv=>simp at hv;rw[← hv];exact h1
   | j+1,hv=>
    rw[show 2*(j+1)=2*j+1+1 by omega] at hv
    exact h3 j v (by simpa using hv)
  ·rintro ⟨h1,h2⟩
   refine⟨h2 0 a rfl,h1,fun j v hv=>h2 (j+1) v ?_⟩
   rw[show 2*(j+1)=2*j+1+1 by omega]
   simpa using hv
theorem pairsF_length (N:List (Int × ByteArray)):∀(l:List V3),(pairsF N l).length=l.length / 2
 | []=>rfl
 | [a]=>by simp[pairsF]
 | a::b::r=>by
  show (_::pairsF N r).length=_
  rw[List.length_cons,pairsF_length N r]
  simp only[List.length_cons]
  omega
theorem pairsF_get (N:List (Int × ByteArray)):∀(l:List V3) (j:Nat) (k v:V3),l[2*j]? = some k→l[2*j+1]? = some v→(pairsF N l)[j]? = some (nameF N k.2.2,k,v)
 | [],j,k,v,h,_=>by simp at h
 | [a],j,k,v,_,h=>by simp at h
 | a::b::r,0,k,v,h1,h2=>by
  simp at h1 h2
  subst h1 h2
  rfl
 | a::b::r,j+1,k,v,h1,h2=>by
  rw[show 2*(j+1)=2*j+1+1 by omega] at h1 h2
  show (_::pairsF N r)[j+1]? = _
  rw[List.getElem?_cons_succ]
  exact pairsF_get N r j k v (by simpa using h1) (by simpa using h2)
def namesTo (N:List (Int × ByteArray)) (l:List V3) (i:Nat):List ByteArray:=((pairsF N l).map (·.1)).take ((i+1) / 2)
theorem namesTo_zero (N:List (Int × ByteArray)) (l:List V3):namesTo N l 0=[]:=by simp[namesTo]
theorem namesTo_odd (N:List (Int × ByteArray)) (l:List V3) (j:Nat):namesTo N l (2*j+1+1)=namesTo N l (2*j+1):=by
 unfold namesTo
 rw[show (2*j+1+1+1) / 2=(2*j+1+1) / 2 by omega]
theorem namesTo_even {N:List (Int × ByteArray)} {l:List V3} {j:Nat} {k:V3} (hl:l.length % 2=0) (hk:l[2*j]? = some k):namesTo N l (2*j+1)=namesTo N l (2*j)++[nameF N k.2.2]:=by
 have h1:=(List.getElem?_eq_some_iff.1 hk).1
 obtain⟨v,hv⟩:∃v,l[2*j+1]? = some v:=⟨_,List.getElem?_eq_getElem (by omega)⟩
 have hp:=pairsF_get N l j k v hk hv
 unfold namesTo
 rw[show (2*j+1+1) / 2=j+1 by omega,show (2*j+1) / 2=j by omega,List.take_add_one]
 simp[hp]
theorem namesTo_all {N:List (Int × ByteArray)} {l:List V3} (hl:l.length % 2=0):namesTo N l l.length=(pairsF N l).map (·.1):=by
 unfold namesTo
 rw[List.take_of_length_le (by rw[List.length_map,pairsF_length];omega)]
theorem namesTo_length (N:List (Int × ByteArray)) (l:List V3) (i:Nat):(namesTo N l i).length≤l.length:=by
 unfold namesTo
 rw[List.length_take,List.length_map,pairsF_length]
 omega
def placesF (N:List (Int × ByteArray)) (l:List V3):List Nat:=(sortP (((pairsF N l).map (·.1)).zip (List.range (pairsF N l).length))).map (·.2)
theorem ord_places {N:List (Int × ByteArray)} {l:List V3} (h:((pairsF N l).map (·.1)).Nodup):ordK ((pairsF N l).map (·.1))=((placesF N l).map (fun (x:Nat)=>(x:Int)),0):=by
 unfold ordK placesF
 rw[if_pos h,List.map_map,List.length_map]
 rfl
theorem places_lt {N:List (Int × ByteArray)} {l:List V3} {j:Nat} (h:j∈placesF N l):j < l.length / 2:=by
 unfold placesF at h
 obtain⟨p,hp,rfl⟩:=List.mem_map.1 h
 have h1:=((sortP_perm _).mem_iff).1 hp
 have h2:=(List.of_mem_zip h1).2
 rw[← pairsF_length N l]
 exact List.mem_range.1 h2
theorem places_length (N:List (Int × ByteArray)) (l:List V3):(placesF N l).length=l.length / 2:=by
 unfold placesF
 rw[List.length_map,(sortP_perm _).length_eq,List.length_zip,List.length_map,List.length_range,pairsF_length]
 omega
theorem zip_self {α:Type} (es:List (ByteArray × α)) (z:ByteArray × α):((es.map (·.1)).zip (List.range es.length)).map (fun p=>(p.1,(es.getD p.2 z).2))=es:=by
 apply List.ext_getElem (by simp)
 intro i h1 h2
 simp only[List.getElem_map,List.getElem_zip,List.getElem_range,List.getD_eq_getElem?_getD,List.getElem?_eq_getElem h2,Option.getD_some]
theorem sort_places (N:List (Int × ByteArray)) (l:List V3) (z:ByteArray × V3 × V3):(placesF N l).map (fun j=>((pairsF N l).getD j z).2)=(sortP (pairsF N l)).map (·.2):=by
 have h:=sortP_map (fun j=>((pairsF N l).getD j z).2) (((pairsF N l).map (·.1)).zip (List.range (pairsF N l).length))
 rw[zip_self] at h
 rw[← h,List.map_map]
 unfold placesF
 rw[List.map_map]
 rfl
theorem sort_names (N:List (Int × ByteArray)) (l:List V3) (z:ByteArray):(placesF N l).map (fun j=>((pairsF N l).map (·.1)).getD j z)=(sortP (pairsF N l)).map (·.1):=by
 have h:=sortP_map (fun j=>((pairsF N l).getD j (z,(0,0,0),(0,0,0))).2) (((pairsF N l).map (·.1)).zip (List.range (pairsF N l).length))
 rw[zip_self] at h
 rw[← h,List.map_map]
 unfold placesF
 rw[List.map_map]
 refine List.map_congr_left fun p hp=>?_
 have h1:=((sortP_perm _).mem_iff).1 hp
 obtain⟨i,hi,he⟩:=List.mem_iff_getElem.1 h1
 rw[List.getElem_zip,List.getElem_range] at he
 subst he
 have hi2:i < ((pairsF N l).map (·.1)).length:=by simp at hi⊢;omega
 simp only[Function.comp,List.getD_eq_getElem?_getD,List.getElem?_eq_getElem hi2,Option.getD_some]
theorem sort_at {N:List (Int × ByteArray)} {l:List V3} (hl:l.length % 2=0) (b:Nat) (hb:b=0∨b=1):(placesF N l).map (fun j=>l.getD (2*j+b) (0,0,0))=(sortP (pairsF N l)).map (fun e=>if b=0 then e.2.1 else e.2.2):=by
 have h:=congrArg (List.map fun p:V3 × V3=>if b=0 then p.1 else p.2) (sort_places N l (⟨#[]⟩,(0,0,0),(0,0,0)))
 rw[List.map_map,List.map_map] at h
 refine Eq.trans ?_ h
 refine List.map_congr_left fun j hj=>?_
 have hlt:=places_lt hj
 have hp:=pairsF_get N l j (l[2*j]'(by omega)) (l[2*j+1]'(by omega)) (List.getElem?_eq_getElem (by omega)) (List.getElem?_eq_getElem (by omega))
 simp only[Function.comp,List.getD_eq_getElem?_getD,hp,Option.getD_some]
 rcases hb with rfl|rfl
 ·simp[List.getElem?_eq_getElem (show 2*j < l.length by omega)]
 ·simp[List.getElem?_eq_getElem (show 2*j+1 < l.length by omega)]
theorem listKey_snoc (l:List ByteArray) (k:ByteArray):listKey (l++[k])=listKey l++(k++⟨#[0]⟩):=by simp[listKey]
theorem nameF_find:∀(l:List (Int × ByteArray)) (n:Int) (i:Nat),(match findU n (namesV l) i with | some q=>q.2 | none=>Value.string ⟨#[]⟩)=.string (nameF l n)
 | [],n,i=>rfl
 | z::r,n,i=>by
  have ih:=nameF_find r n (i+1)
  show (match (if n=z.1 then some (i,Value.string z.2) else findU n (namesV r) (i+1)) with | some q=>q.2 | none=>Value.string ⟨#[]⟩)=_
  unfold nameF
  by_cases h:n=z.1
  ·rw[if_pos h,List.find?_cons_of_pos (by simp[h])]
  ·rw[if_neg h,List.find?_cons_of_neg (by simpa using fun e=>h e.symm)]
   exact ih
end Go.Proofs.YtdjoffgkndncfaaGreat
