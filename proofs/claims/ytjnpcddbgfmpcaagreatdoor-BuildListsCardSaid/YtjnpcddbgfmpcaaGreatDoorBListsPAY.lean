/-
  Texts of the proof.
-/
import Derived.Test.YtjnpcddbgfmpcaaGreatDoorBListsPAQ
import Derived.Test.YtjnpcddbgfmpcaaGreatDoorBListsPAX
set_option linter.unusedVariables false
set_option linter.unusedSimpArgs false
namespace Go.Proofs.YtjnpcddbgfmpcaaGreatDoor
open Go Go.ChangeShapes Go.WideShapes Go.ChangeAt Go.RowKit Go.Joins Go.Deep
/-! ### sorting by key -/
def aK {α:Type} (x:ByteArray × α):List (ByteArray × α)→List (ByteArray × α)
 | []=>[x]
 | y::r=>if ltS x.1 y.1=true then x::y::r else y::aK x r
def kM {α:Type} (l:List (ByteArray × α)):List (ByteArray × α):=l.foldr aK []
section
variable {α β:Type}
theorem VD (x:ByteArray × α):∀l:List (ByteArray × α),(aK x l).Perm (x::l)
 | []=>.refl _
 | y::r=>by
  unfold aK
  split
  ·exact .refl _
  ·exact ((VD x r).cons y).trans (.swap x y r)
theorem zH:∀l:List (ByteArray × α),(kM l).Perm l
 | []=>.refl _
 | x::r=>(VD x (kM r)).trans ((zH r).cons x)
theorem VW (x:ByteArray × α):∀l:List (ByteArray × α),l.Pairwise (fun a b=>ltS a.1 b.1=true)→(∀y∈l,y.1≠x.1)→(aK x l).Pairwise (fun a b=>ltS a.1 b.1=true)
 | [],_,_=>by simp[aK]
 | y::r,h,hne=>by
  obtain⟨h1,h2⟩:=List.pairwise_cons.1 h
  unfold aK
  split
  ·rename_i hlt
   refine List.pairwise_cons.2 ⟨fun z hz=>?_,h⟩
   rcases List.mem_cons.1 hz with rfl|hz
   ·exact hlt
   ·exact qP hlt (h1 z hz)
  ·rename_i hnl
   have hyx:ltS y.1 x.1=true:=by
    cases hq:ltS y.1 x.1
    ·exact absurd (KF hq (by simpa using hnl)) (hne y (by simp))
    ·rfl
   refine List.pairwise_cons.2 ⟨fun z hz=>?_,VW x r h2 (fun z hz=>hne z (by simp[hz]))⟩
   rcases List.mem_cons.1 ((VD x r).mem_iff.1 hz) with rfl|hz
   ·exact hyx
   ·exact h1 z hz
theorem yT:∀l:List (ByteArray × α),(l.map Prod.fst).Nodup→(kM l).Pairwise (fun a b=>ltS a.1 b.1=true)
 | [],_=>List.Pairwise.nil
 | x::r,h=>by
  obtain⟨h1,h2⟩:=List.nodup_cons.1 (by simpa using h:(x.1::r.map Prod.fst).Nodup)
  exact VW x (kM r) (yT r h2) (fun y hy e=>h1 (List.mem_map.2 ⟨y,(zH r).mem_iff.1 hy,e⟩))
theorem JB:∀(l m:List (ByteArray × α)),l.Perm m→l.Pairwise (fun a b=>ltS a.1 b.1=true)→m.Pairwise (fun a b=>ltS a.1 b.1=true)→l=m
 | [],m,hp,_,_=>by simpa using hp
 | x::r,[],hp,_,_=>by simp at hp
 | x::r,y::q,hp,h1,h2=>by
  obtain⟨a1,a2⟩:=List.pairwise_cons.1 h1
  obtain⟨b1,b2⟩:=List.pairwise_cons.1 h2
  have hxy:x=y:=by
   rcases List.mem_cons.1 (hp.mem_iff.1 (by simp:x∈x::r)) with h|h
   ·exact h
   ·rcases List.mem_cons.1 (hp.mem_iff.2 (by simp:y∈y::q)) with h'|h'
    ·exact h'.symm
    ·have e1:=b1 x h
     have e2:=a1 y h'
     have:=qP e1 e2
     rw[vF] at this;cases this
  subst hxy
  rw[JB r q (List.Perm.cons_inv hp) a2 b2]
theorem gZ (f:α→β) (x:ByteArray × α):∀l:List (ByteArray × α),(aK x l).map (fun p=>(p.1,f p.2))=aK (x.1,f x.2) (l.map fun p=>(p.1,f p.2))
 | []=>rfl
 | y::r=>by
  simp only[aK,List.map_cons]
  split
  ·rfl
  ·simp[gZ f x r]
theorem VE (f:α→β):∀l:List (ByteArray × α),(kM l).map (fun p=>(p.1,f p.2))=kM (l.map fun p=>(p.1,f p.2))
 | []=>rfl
 | x::r=>by
  show (aK x (kM r)).map _=aK _ (kM (r.map _))
  rw[gZ,VE f r]
end
theorem l5 {α:Type} {keys:List ByteArray} {l:List α} (hl:keys.length=l.length) {p:List (Fin keys.length)} (hp:p.Perm (List.finRange keys.length)) (hs:∀(i j:Nat) x y,i < j→p[i]? = some x→p[j]? = some y→ltS keys[x] keys[y]=true) (z:ByteArray × α) :
 p.map (fun x=>(keys.zip l).getD x.1 z)=kM (keys.zip l):=by
 have hz:(keys.zip l).length=keys.length:=by simp[hl]
 have hfst:∀x:Fin keys.length,((keys.zip l).getD x.1 z).1=keys[x]:=fun x=>by
  rw[List.getD_eq_getElem?_getD,List.getElem?_eq_getElem (by rw[hz];exact x.2)]
  simp
 have qN:(List.finRange keys.length).map (fun x=>(keys.zip l).getD x.1 z)=keys.zip l:=by
  apply List.ext_getElem (by simp[hl])
  intro i h1 h2
  rw[List.getElem_map,List.getElem_finRange]
  simp only[Fin.cast_mk] at *
  rw[List.getD_eq_getElem?_getD,List.getElem?_eq_getElem (by simpa using h2)]
  rfl
 have hnd:keys.Nodup:=QJ hp hs
 refine JB _ _ (((hp.map _).trans (by rw[qN])).trans (zH _).symm) ?_ (yT _ (by rw[List.map_fst_zip (by omega)];exact hnd))
 rw[List.pairwise_iff_getElem]
 intro i j h1 h2 hij
 rw[List.getElem_map,List.getElem_map,hfst,hfst]
 exact hs i j _ _ hij (List.getElem?_eq_getElem (by simpa using h1)) (List.getElem?_eq_getElem (by simpa using h2))
/-! ### trees that can be sorted -/
mutual
def okT:Tr→Prop | .mk k n u s keys l=>(k=17→keys.Nodup∧keys.length=l.length)∧keys.length≤4096∧l.length≤4096∧okL l
def okL:List Tr→Prop | []=>True | t::r=>okT t∧okL r
end
section
variable {w:World} {B:Nat}
end
end Go.Proofs.YtjnpcddbgfmpcaaGreatDoor
