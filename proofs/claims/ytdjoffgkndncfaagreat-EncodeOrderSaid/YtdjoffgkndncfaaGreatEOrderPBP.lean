/-
  Texts of the proof.
-/
import Derived.Test.YtdjoffgkndncfaaGreatEOrderPBM
import Derived.Test.YtdjoffgkndncfaaGreatEOrderPAW
set_option linter.unusedVariables false
set_option linter.unusedSimpArgs false
namespace Go.Proofs.YtdjoffgkndncfaaGreat
open Go Go.ChangeShapes Go.WideShapes Go.ChangeAt Go.RowKit Go.Joins Go.Deep
open Go.Proofs.YtdjoffgkndncfaaGreat.Ft (V3 vV okV ValsAt inlineB legalB packF codeF typedF allF)
theorem jCB:∀(l:List V3),jAk l=true↔l.length % 2=0∧∀(j:Nat) v,l[2*j]? = some v→v.1=4
 | []=>by simp[jAk]
 | [a]=>by simp[jAk]
 | a::b::r=>by
  have ih:=jCB r
  show (decide (a.1=4) && jAk r)=true↔_
  rw[Bool.and_eq_true,ih,decide_eq_true_eq]
  have hl:(a::b::r).length % 2=r.length % 2:=by simp only[List.length_cons];omega
  rw[hl]
  constructor
  ·rintro ⟨h1,h2,h3⟩
   refine⟨h2,fun j v hv=>?_⟩
   match j,hv with
   | 0,hv=>simp at hv;rw[← hv];exact h1
   | j+1,hv=>
    rw[show 2*(j+1)=2*j+1+1 by omega] at hv
    exact h3 j v (by simpa using hv)
  ·rintro ⟨h1,h2⟩
   refine⟨h2 0 a rfl,h1,fun j v hv=>h2 (j+1) v ?_⟩
   rw[show 2*(j+1)=2*j+1+1 by omega]
   simpa using hv
theorem jAu (N:List (Int × ByteArray)):∀(l:List V3),(jn N l).length=l.length / 2
 | []=>rfl
 | [a]=>by simp[jn]
 | a::b::r=>by
  show (_::jn N r).length=_
  rw[List.length_cons,jAu N r]
  simp only[List.length_cons]
  omega
theorem jEh (N:List (Int × ByteArray)):∀(l:List V3) (j:Nat) (k v:V3),l[2*j]? = some k→l[2*j+1]? = some v→(jn N l)[j]? = some (jAB N k.2.2,k,v)
 | [],j,k,v,h,_=>by simp at h
 | [a],j,k,v,_,h=>by simp at h
 | a::b::r,0,k,v,h1,h2=>by
  simp at h1 h2
  subst h1 h2
  rfl
 | a::b::r,j+1,k,v,h1,h2=>by
  rw[show 2*(j+1)=2*j+1+1 by omega] at h1 h2
  show (_::jn N r)[j+1]? = _
  rw[List.getElem?_cons_succ]
  exact jEh N r j k v (by simpa using h1) (by simpa using h2)
def jAe (N:List (Int × ByteArray)) (l:List V3) (i:Nat):List ByteArray:=((jn N l).map (·.1)).take ((i+1) / 2)
theorem jJO (N:List (Int × ByteArray)) (l:List V3):jAe N l 0=[]:=by simp[jAe]
theorem jFz (N:List (Int × ByteArray)) (l:List V3) (j:Nat):jAe N l (2*j+1+1)=jAe N l (2*j+1):=by
 unfold jAe
 rw[show (2*j+1+1+1) / 2=(2*j+1+1) / 2 by omega]
theorem jJP {N:List (Int × ByteArray)} {l:List V3} {j:Nat} {k:V3} (hl:l.length % 2=0) (hk:l[2*j]? = some k):jAe N l (2*j+1)=jAe N l (2*j)++[jAB N k.2.2]:=by
 have h1:=(List.getElem?_eq_some_iff.1 hk).1
 obtain⟨v,hv⟩:∃v,l[2*j+1]? = some v:=⟨_,List.getElem?_eq_getElem (by omega)⟩
 have hp:=jEh N l j k v hk hv
 unfold jAe
 rw[show (2*j+1+1) / 2=j+1 by omega,show (2*j+1) / 2=j by omega,List.take_add_one]
 simp[hp]
theorem jKs {N:List (Int × ByteArray)} {l:List V3} (hl:l.length % 2=0):jAe N l l.length=(jn N l).map (·.1):=by
 unfold jAe
 rw[List.take_of_length_le (by rw[List.length_map,jAu];omega)]
theorem jHP (N:List (Int × ByteArray)) (l:List V3) (i:Nat):(jAe N l i).length≤l.length:=by
 unfold jAe
 rw[List.length_take,List.length_map,jAu]
 omega
def jAr (N:List (Int × ByteArray)) (l:List V3):List Nat:=(jAp (((jn N l).map (·.1)).zip (List.range (jn N l).length))).map (·.2)
theorem jLn {N:List (Int × ByteArray)} {l:List V3} (h:((jn N l).map (·.1)).Nodup):jBZ ((jn N l).map (·.1))=((jAr N l).map (fun (x:Nat)=>(x:Int)),0):=by
 unfold jBZ jAr
 rw[if_pos h,List.map_map,List.length_map]
 rfl
theorem jIY {N:List (Int × ByteArray)} {l:List V3} {j:Nat} (h:j∈jAr N l):j < l.length / 2:=by
 unfold jAr at h
 obtain⟨p,hp,rfl⟩:=List.mem_map.1 h
 have h1:=((jAD _).mem_iff).1 hp
 have h2:=(List.of_mem_zip h1).2
 rw[← jAu N l]
 exact List.mem_range.1 h2
theorem jHh (N:List (Int × ByteArray)) (l:List V3):(jAr N l).length=l.length / 2:=by
 unfold jAr
 rw[List.length_map,(jAD _).length_eq,List.length_zip,List.length_map,List.length_range,jAu]
 omega
theorem jKt {α:Type} (es:List (ByteArray × α)) (z:ByteArray × α):((es.map (·.1)).zip (List.range es.length)).map (fun p=>(p.1,(es.getD p.2 z).2))=es:=by
 apply List.ext_getElem (by simp)
 intro i h1 h2
 simp only[List.getElem_map,List.getElem_zip,List.getElem_range,List.getD_eq_getElem?_getD,List.getElem?_eq_getElem h2,Option.getD_some]
theorem jKu (N:List (Int × ByteArray)) (l:List V3) (z:ByteArray × V3 × V3):(jAr N l).map (fun j=>((jn N l).getD j z).2)=(jAp (jn N l)).map (·.2):=by
 have h:=jD8 (fun j=>((jn N l).getD j z).2) (((jn N l).map (·.1)).zip (List.range (jn N l).length))
 rw[jKt] at h
 rw[← h,List.map_map]
 unfold jAr
 rw[List.map_map]
 rfl
theorem jLo (N:List (Int × ByteArray)) (l:List V3) (z:ByteArray):(jAr N l).map (fun j=>((jn N l).map (·.1)).getD j z)=(jAp (jn N l)).map (·.1):=by
 have h:=jD8 (fun j=>((jn N l).getD j (z,(0,0,0),(0,0,0))).2) (((jn N l).map (·.1)).zip (List.range (jn N l).length))
 rw[jKt] at h
 rw[← h,List.map_map]
 unfold jAr
 rw[List.map_map]
 refine List.map_congr_left fun p hp=>?_
 have h1:=((jAD _).mem_iff).1 hp
 obtain⟨i,hi,he⟩:=List.mem_iff_getElem.1 h1
 rw[List.getElem_zip,List.getElem_range] at he
 subst he
 have hi2:i < ((jn N l).map (·.1)).length:=by simp at hi⊢;omega
 simp only[Function.comp,List.getD_eq_getElem?_getD,List.getElem?_eq_getElem hi2,Option.getD_some]
theorem jMP {N:List (Int × ByteArray)} {l:List V3} (hl:l.length % 2=0) (b:Nat) (hb:b=0∨b=1):(jAr N l).map (fun j=>l.getD (2*j+b) (0,0,0))=(jAp (jn N l)).map (fun e=>if b=0 then e.2.1 else e.2.2):=by
 have h:=congrArg (List.map fun p:V3 × V3=>if b=0 then p.1 else p.2) (jKu N l (⟨#[]⟩,(0,0,0),(0,0,0)))
 rw[List.map_map,List.map_map] at h
 refine Eq.trans ?_ h
 refine List.map_congr_left fun j hj=>?_
 have hlt:=jIY hj
 have hp:=jEh N l j (l[2*j]'(by omega)) (l[2*j+1]'(by omega)) (List.getElem?_eq_getElem (by omega)) (List.getElem?_eq_getElem (by omega))
 simp only[Function.comp,List.getD_eq_getElem?_getD,hp,Option.getD_some]
 rcases hb with rfl|rfl
 ·simp[List.getElem?_eq_getElem (show 2*j < l.length by omega)]
 ·simp[List.getElem?_eq_getElem (show 2*j+1 < l.length by omega)]
theorem jJQ (l:List ByteArray) (k:ByteArray):jo (l++[k])=jo l++(k++⟨#[0]⟩):=by simp[jo]
theorem jHQ:∀(l:List (Int × ByteArray)) (n:Int) (i:Nat),(match jDY n (jBe l) i with | some q=>q.2 | none=>Value.string ⟨#[]⟩)=.string (jAB l n)
 | [],n,i=>rfl
 | z::r,n,i=>by
  have ih:=jHQ r n (i+1)
  show (match (if n=z.1 then some (i,Value.string z.2) else jDY n (jBe r) (i+1)) with | some q=>q.2 | none=>Value.string ⟨#[]⟩)=_
  unfold jAB
  by_cases h:n=z.1
  ·rw[if_pos h,List.find?_cons_of_pos (by simp[h])]
  ·rw[if_neg h,List.find?_cons_of_neg (by simpa using fun e=>h e.symm)]
   exact ih
end Go.Proofs.YtdjoffgkndncfaaGreat
