/-
  Texts of the proof.
-/
import Derived.Test.YtjnpcddbgfmpcaaGreatDoorBMapsPAQ
import Derived.Test.YtjnpcddbgfmpcaaGreatDoorBMapsPAX
set_option linter.unusedVariables false
set_option linter.unusedSimpArgs false
namespace Go.Proofs.YtjnpcddbgfmpcaaGreatDoor
open Go Go.ChangeShapes Go.WideShapes Go.ChangeAt Go.RowKit Go.Joins Go.Deep
/-! ### sorting by key -/
def aJ {α:Type} (x:ByteArray × α):List (ByteArray × α)→List (ByteArray × α)
 | []=>[x]
 | y::r=>if ltS x.1 y.1=true then x::y::r else y::aJ x r
def kW {α:Type} (l:List (ByteArray × α)):List (ByteArray × α):=l.foldr aJ []
section
variable {α β:Type}
theorem VE (x:ByteArray × α):∀l:List (ByteArray × α),(aJ x l).Perm (x::l)
 | []=>.refl _
 | y::r=>by
  unfold aJ
  split
  ·exact .refl _
  ·exact ((VE x r).cons y).trans (.swap x y r)
theorem z8:∀l:List (ByteArray × α),(kW l).Perm l
 | []=>.refl _
 | x::r=>(VE x (kW r)).trans ((z8 r).cons x)
theorem VV (x:ByteArray × α):∀l:List (ByteArray × α),l.Pairwise (fun a b=>ltS a.1 b.1=true)→(∀y∈l,y.1≠x.1)→(aJ x l).Pairwise (fun a b=>ltS a.1 b.1=true)
 | [],_,_=>by simp[aJ]
 | y::r,h,hne=>by
  obtain⟨h1,h2⟩:=List.pairwise_cons.1 h
  unfold aJ
  split
  ·rename_i hlt
   refine List.pairwise_cons.2 ⟨fun z hz=>?_,h⟩
   rcases List.mem_cons.1 hz with rfl|hz
   ·exact hlt
   ·exact JG hlt (h1 z hz)
  ·rename_i hnl
   have hyx:ltS y.1 x.1=true:=by
    cases hq:ltS y.1 x.1
    ·exact absurd (VD hq (by simpa using hnl)) (hne y (by simp))
    ·rfl
   refine List.pairwise_cons.2 ⟨fun z hz=>?_,VV x r h2 (fun z hz=>hne z (by simp[hz]))⟩
   rcases List.mem_cons.1 ((VE x r).mem_iff.1 hz) with rfl|hz
   ·exact hyx
   ·exact h1 z hz
theorem qX:∀l:List (ByteArray × α),(l.map Prod.fst).Nodup→(kW l).Pairwise (fun a b=>ltS a.1 b.1=true)
 | [],_=>List.Pairwise.nil
 | x::r,h=>by
  obtain⟨h1,h2⟩:=List.nodup_cons.1 (by simpa using h:(x.1::r.map Prod.fst).Nodup)
  exact VV x (kW r) (qX r h2) (fun y hy e=>h1 (List.mem_map.2 ⟨y,(z8 r).mem_iff.1 hy,e⟩))
theorem KR:∀(l m:List (ByteArray × α)),l.Perm m→l.Pairwise (fun a b=>ltS a.1 b.1=true)→m.Pairwise (fun a b=>ltS a.1 b.1=true)→l=m
 | [],m,hp,_,_=>by simpa using hp
 | x::r,[],hp,_,_=>by simp at hp
 | x::r,y::q,hp,h1,h2=>by
  obtain⟨a1,a2⟩:=List.pairwise_cons.1 h1
  obtain⟨b1,b2⟩:=List.pairwise_cons.1 h2
  have hxy:x=y:=by
   rcases List.mem_cons.1 (hp.mem_iff.1 (by simp:x∈x::r)) with h|h
   ·exact h
   ·rcases List.mem_cons.1 (hp.mem_iff.2 (by simp:y∈y::q)) with h'|h'
    ·exact h'.symm
    ·have e1:=b1 x h
     have e2:=a1 y h'
     have:=JG e1 e2
     rw[vC] at this;cases this
  subst hxy
  rw[KR r q (List.Perm.cons_inv hp) a2 b2]
theorem gZ (f:α→β) (x:ByteArray × α):∀l:List (ByteArray × α),(aJ x l).map (fun p=>(p.1,f p.2))=aJ (x.1,f x.2) (l.map fun p=>(p.1,f p.2))
 | []=>rfl
 | y::r=>by
  simp only[aJ,List.map_cons]
  split
  ·rfl
  ·simp[gZ f x r]
theorem VF (f:α→β):∀l:List (ByteArray × α),(kW l).map (fun p=>(p.1,f p.2))=kW (l.map fun p=>(p.1,f p.2))
 | []=>rfl
 | x::r=>by
  show (aJ x (kW r)).map _=aJ _ (kW (r.map _))
  rw[gZ,VF f r]
end
theorem mD {α:Type} {keys:List ByteArray} {l:List α} (hl:keys.length=l.length) {p:List (Fin keys.length)} (hp:p.Perm (List.finRange keys.length)) (hs:∀(i j:Nat) x y,i < j→p[i]? = some x→p[j]? = some y→ltS keys[x] keys[y]=true) (z:ByteArray × α) :
 p.map (fun x=>(keys.zip l).getD x.1 z)=kW (keys.zip l):=by
 have hz:(keys.zip l).length=keys.length:=by simp[hl]
 have hfst:∀x:Fin keys.length,((keys.zip l).getD x.1 z).1=keys[x]:=fun x=>by
  rw[List.getD_eq_getElem?_getD,List.getElem?_eq_getElem (by rw[hz];exact x.2)]
  simp
 have q8:(List.finRange keys.length).map (fun x=>(keys.zip l).getD x.1 z)=keys.zip l:=by
  apply List.ext_getElem (by simp[hl])
  intro i h1 h2
  rw[List.getElem_map,List.getElem_finRange]
  simp only[Fin.cast_mk] at *
  rw[List.getD_eq_getElem?_getD,List.getElem?_eq_getElem (by simpa using h2)]
  rfl
 have hnd:keys.Nodup:=QK hp hs
 refine KR _ _ (((hp.map _).trans (by rw[q8])).trans (z8 _).symm) ?_ (qX _ (by rw[List.map_fst_zip (by omega)];exact hnd))
 rw[List.pairwise_iff_getElem]
 intro i j h1 h2 hij
 rw[List.getElem_map,List.getElem_map,hfst,hfst]
 exact hs i j _ _ hij (List.getElem?_eq_getElem (by simpa using h1)) (List.getElem?_eq_getElem (by simpa using h2))
/-! ### trees that can be sorted -/
mutual
def okT:Tr→Prop | .mk k n u s keys l=>(k=17→keys.Nodup∧keys.length=l.length)∧keys.length≤4096∧l.length≤4096∧okL l
def okL:List Tr→Prop | []=>True | t::r=>okT t∧okL r
end
section
variable {w:World} {B:Nat}
end
end Go.Proofs.YtjnpcddbgfmpcaaGreatDoor
