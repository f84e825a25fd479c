/-
  Texts of the proof.
-/
import Derived.Test.YtjnpcddbgfmpcaaGreatDoorBKeysPAQ
import Derived.Test.YtjnpcddbgfmpcaaGreatDoorBKeysPAX
set_option linter.unusedVariables false
set_option linter.unusedSimpArgs false
namespace Go.Proofs.YtjnpcddbgfmpcaaGreatDoor
open Go Go.ChangeShapes Go.WideShapes Go.ChangeAt Go.RowKit Go.Joins Go.Deep
/-! ### sorting by key -/
def V0 {α:Type} (x:ByteArray × α):List (ByteArray × α)→List (ByteArray × α)
 | []=>[x]
 | y::r=>if ltS x.1 y.1=true then x::y::r else y::V0 x r
def y8 {α:Type} (l:List (ByteArray × α)):List (ByteArray × α):=l.foldr V0 []
section
variable {α β:Type}
theorem QT (x:ByteArray × α):∀l:List (ByteArray × α),(V0 x l).Perm (x::l)
 | []=>.refl _
 | y::r=>by
  unfold V0
  split
  ·exact .refl _
  ·exact ((QT x r).cons y).trans (.swap x y r)
theorem q9:∀l:List (ByteArray × α),(y8 l).Perm l
 | []=>.refl _
 | x::r=>(QT x (y8 r)).trans ((q9 r).cons x)
theorem VD (x:ByteArray × α):∀l:List (ByteArray × α),l.Pairwise (fun a b=>ltS a.1 b.1=true)→(∀y∈l,y.1≠x.1)→(V0 x l).Pairwise (fun a b=>ltS a.1 b.1=true)
 | [],_,_=>by simp[V0]
 | y::r,h,hne=>by
  obtain⟨h1,h2⟩:=List.pairwise_cons.1 h
  unfold V0
  split
  ·rename_i hlt
   refine List.pairwise_cons.2 ⟨fun z hz=>?_,h⟩
   rcases List.mem_cons.1 hz with rfl|hz
   ·exact hlt
   ·exact qK hlt (h1 z hz)
  ·rename_i hnl
   have hyx:ltS y.1 x.1=true:=by
    cases hq:ltS y.1 x.1
    ·exact absurd (JZ hq (by simpa using hnl)) (hne y (by simp))
    ·rfl
   refine List.pairwise_cons.2 ⟨fun z hz=>?_,VD x r h2 (fun z hz=>hne z (by simp[hz]))⟩
   rcases List.mem_cons.1 ((QT x r).mem_iff.1 hz) with rfl|hz
   ·exact hyx
   ·exact h1 z hz
theorem Y2:∀l:List (ByteArray × α),(l.map Prod.fst).Nodup→(y8 l).Pairwise (fun a b=>ltS a.1 b.1=true)
 | [],_=>List.Pairwise.nil
 | x::r,h=>by
  obtain⟨h1,h2⟩:=List.nodup_cons.1 (by simpa using h:(x.1::r.map Prod.fst).Nodup)
  exact VD x (y8 r) (Y2 r h2) (fun y hy e=>h1 (List.mem_map.2 ⟨y,(q9 r).mem_iff.1 hy,e⟩))
theorem Y3:∀(l m:List (ByteArray × α)),l.Perm m→l.Pairwise (fun a b=>ltS a.1 b.1=true)→m.Pairwise (fun a b=>ltS a.1 b.1=true)→l=m
 | [],m,hp,_,_=>by simpa using hp
 | x::r,[],hp,_,_=>by simp at hp
 | x::r,y::q,hp,h1,h2=>by
  obtain⟨a1,a2⟩:=List.pairwise_cons.1 h1
  obtain⟨b1,b2⟩:=List.pairwise_cons.1 h2
  have hxy:x=y:=by
   rcases List.mem_cons.1 (hp.mem_iff.1 (by simp:x∈x::r)) with h|h
   ·exact h
   ·rcases List.mem_cons.1 (hp.mem_iff.2 (by simp:y∈y::q)) with h'|h'
    ·exact h'.symm
    ·have e1:=b1 x h
     have e2:=a1 y h'
     have:=qK e1 e2
     rw[JC] at this;cases this
  subst hxy
  rw[Y3 r q (List.Perm.cons_inv hp) a2 b2]
theorem gD (f:α→β) (x:ByteArray × α):∀l:List (ByteArray × α),(V0 x l).map (fun p=>(p.1,f p.2))=V0 (x.1,f x.2) (l.map fun p=>(p.1,f p.2))
 | []=>rfl
 | y::r=>by
  simp only[V0,List.map_cons]
  split
  ·rfl
  ·simp[gD f x r]
theorem QU (f:α→β):∀l:List (ByteArray × α),(y8 l).map (fun p=>(p.1,f p.2))=y8 (l.map fun p=>(p.1,f p.2))
 | []=>rfl
 | x::r=>by
  show (V0 x (y8 r)).map _=V0 _ (y8 (r.map _))
  rw[gD,QU f r]
end
theorem lE {α:Type} {keys:List ByteArray} {l:List α} (hl:keys.length=l.length) {p:List (Fin keys.length)} (hp:p.Perm (List.finRange keys.length)) (hs:∀(i j:Nat) x y,i < j→p[i]? = some x→p[j]? = some y→ltS keys[x] keys[y]=true) (z:ByteArray × α) :
 p.map (fun x=>(keys.zip l).getD x.1 z)=y8 (keys.zip l):=by
 have hz:(keys.zip l).length=keys.length:=by simp[hl]
 have hfst:∀x:Fin keys.length,((keys.zip l).getD x.1 z).1=keys[x]:=fun x=>by
  rw[List.getD_eq_getElem?_getD,List.getElem?_eq_getElem (by rw[hz];exact x.2)]
  simp
 have JM:(List.finRange keys.length).map (fun x=>(keys.zip l).getD x.1 z)=keys.zip l:=by
  apply List.ext_getElem (by simp[hl])
  intro i h1 h2
  rw[List.getElem_map,List.getElem_finRange]
  simp only[Fin.cast_mk] at *
  rw[List.getD_eq_getElem?_getD,List.getElem?_eq_getElem (by simpa using h2)]
  rfl
 have hnd:keys.Nodup:=YX hp hs
 refine Y3 _ _ (((hp.map _).trans (by rw[JM])).trans (q9 _).symm) ?_ (Y2 _ (by rw[List.map_fst_zip (by omega)];exact hnd))
 rw[List.pairwise_iff_getElem]
 intro i j h1 h2 hij
 rw[List.getElem_map,List.getElem_map,hfst,hfst]
 exact hs i j _ _ hij (List.getElem?_eq_getElem (by simpa using h1)) (List.getElem?_eq_getElem (by simpa using h2))
/-! ### trees that can be sorted -/
mutual
def okT:Tr→Prop | .mk k n u s keys l=>(k=17→keys.Nodup∧keys.length=l.length)∧keys.length≤4096∧l.length≤4096∧okL l
def okL:List Tr→Prop | []=>True | t::r=>okT t∧okL r
end
section
variable {w:World} {B:Nat}
end
end Go.Proofs.YtjnpcddbgfmpcaaGreatDoor
