/-
  Texts of the proof.
-/
import Derived.Test.YtjnpcddbgfmpcaaGreatDoorBMapsPAY
import Derived.StillTailTactics
import Derived.Deep.DeepCutAuto
import Derived.Deep.CutBlock
set_option linter.unusedVariables false
set_option linter.unusedSimpArgs false
set_option maxRecDepth 100000
namespace Go.Proofs.YtjnpcddbgfmpcaaGreatDoor
open Go Go.ChangeShapes Go.WideShapes Go.ChangeAt Go.RowKit Go.Joins Go.Deep
section
variable {α:Type} {n:Nat} {p:List (Fin n)} {f:Nat→α} {z:α}
end
def Ss (l:List ByteArray) (v:Value) (w:World):Prop:=kO w v l
theorem v6.grew {w w':World} {v:Value} {l:List Int} (h:v6 w v l) (hg:jA w w'):v6 w' v l:=by
 obtain⟨a,c,h1,h2,h3,h4,h5⟩:=h
 refine⟨a,c,h1,h2,h3,h4,fun i x hx=>?_⟩
 obtain⟨_,b,off,e,hc⟩:=h5 i x hx
 exact⟨trivial,b,off,e,hg.cell hc⟩
theorem kO.form {w:World} {v:Value} {l:List ByteArray} (h:kO w v l):∃a c,v=.slice a l.length c:=by
 obtain⟨a,c,e,_⟩:=h;exact⟨a,c,e⟩
theorem kO.nil (w:World):kO w (.slice none 0 0) []:=⟨none,0,rfl,by simp,by unfold k9;omega,fun _=>rfl,by simp⟩
theorem v6.nil (w:World):v6 w (.slice none 0 0) []:=⟨none,0,rfl,by simp,by unfold k9;omega,fun _=>rfl,by simp⟩
theorem mE (w:World) (l:List ByteArray) (hz:∀s∈l,k9 s.size) (hl:l.length≤4096):Ss l (.slice (some ⟨w.heap.size,0,none⟩) l.length l.length) (w.alloc (.cells (l.map Value.string).toArray 9)):=by
 refine⟨some ⟨w.heap.size,0,none⟩,l.length,rfl,Nat.le_refl _,by unfold k9;omega,fun h=>(by cases h),fun i s hs=>⟨hz s (List.mem_of_getElem? hs),w.heap.size,0,rfl,?_⟩⟩
 rw[cell_of_row _ _ _ _ _ _ (heap_alloc_new _ _)]
 simp[hs]
def qJ (l:List ByteArray):List Int × Int:=if l.Nodup then ((kW (l.zip (List.range l.length))).map (fun p=>(p.2:Int)),0) else ([],71)
theorem dU {w w':World} {l:List ByteArray} {r:Ending} (hl:l.length≤65536) (h:rS w l r w'):jA w w'∧∃v,r=.returned (.tuple #[v,.int .i64 (qJ l).2])∧v6 w' v (qJ l).1:=by
 obtain⟨hg,⟨hn,rfl⟩|⟨hn,v,rfl,blk,cap,p,rfl,hp,hs,hc,rfl⟩⟩:=h
 ·have e:qJ l=([],71):=by unfold qJ;rw[if_neg hn]
  rw[e]
  exact⟨hg,_,rfl,v6.nil _⟩
 ·have e:qJ l=((kW (l.zip (List.range l.length))).map (fun p=>(p.2:Int)),0):=by unfold qJ;rw[if_pos hn]
  have h1:=mD (l:=List.range l.length) (by simp) hp hs (⟨#[]⟩,0)
  have h2:(kW (l.zip (List.range l.length))).map (fun p=>(p.2:Int))=p.map fun x=>((x.1:Nat):Int):=by
   rw[← h1,List.map_map]
   refine List.map_congr_left fun x hx=>?_
   simp[List.getD_eq_getElem?_getD,x.2]
  rw[e,h2]
  refine⟨hg,_,rfl,some ⟨blk,0,none⟩,l.length,by simp[bA hp],by simp[bA hp],by unfold k9;omega,fun h=>(by cases h),fun i x hx=>?_⟩
  ·rw[List.getElem?_map] at hx
   cases hq:p[i]? with
   | none=>rw[hq] at hx;cases hx
   | some q=>
    rw[hq] at hx
    cases hx
    exact⟨trivial,blk,0,rfl,by rw[Nat.zero_add];exact hc i q hq⟩
end Go.Proofs.YtjnpcddbgfmpcaaGreatDoor
namespace Go.Proofs.YtjnpcddbgfmpcaaGreatDoor
open Go Go.ChangeShapes Go.WideShapes Go.ChangeAt Go.RowKit Go.Joins Go.Deep
open Go.ChangeMaps (open_string shut_string)
theorem mF {H:Type} {enc:TypeId × Value→H} {W:World} {base:Nat} {v:Value} {d:DataW H} {p:List MemPlace} (o:Value.okWide Tryz.prog W .any base 22 v) (k:DataW.Trod enc Tryz.prog W 0 (fun _=>true) true 22 v d p):∃l,kO W v l:=by
 obtain⟨fuel,hf⟩:=k
 obtain⟨v',l,e,h⟩:=fH hf
 obtain⟨a,n,c,rfl⟩:=okWide_slice Tryz.underlying22 o
 simp[Value.cells] at e
 subst e
 exact⟨l,h⟩
end Go.Proofs.YtjnpcddbgfmpcaaGreatDoor
