/-
  Texts of the proof.
-/
import Derived.Test.YtjnpcddbgfmpcaaGreatBTextsPBB
import Derived.StillTailTactics
import Derived.Deep.DeepCutAuto
import Derived.Deep.CutBlock
set_option linter.unusedVariables false
set_option linter.unusedSimpArgs false
namespace Go.Proofs.YtjnpcddbgfmpcaaGreat
open Go Go.ChangeShapes Go.WideShapes Go.ChangeAt Go.RowKit Go.Joins Go.Deep
section
variable {α:Type} {n:Nat} {p:List (Fin n)} {f:Nat→α} {z:α}
end
def Ss (l:List ByteArray) (v:Value) (w:World):Prop:=kM w v l
theorem vE.grew {w w':World} {v:Value} {l:List Int} (h:vE w v l) (hg:jB w w'):vE w' v l:=by
 obtain⟨a,c,h1,h2,h3,h4,h5⟩:=h
 refine⟨a,c,h1,h2,h3,h4,fun i x hx=>?_⟩
 obtain⟨_,b,off,e,hc⟩:=h5 i x hx
 exact⟨trivial,b,off,e,hg.cell hc⟩
theorem kM.form {w:World} {v:Value} {l:List ByteArray} (h:kM w v l):∃a c,v=.slice a l.length c:=by
 obtain⟨a,c,e,_⟩:=h;exact⟨a,c,e⟩
theorem kM.nil (w:World):kM w (.slice none 0 0) []:=⟨none,0,rfl,by simp,by unfold zA;omega,fun _=>rfl,by simp⟩
theorem vE.nil (w:World):vE w (.slice none 0 0) []:=⟨none,0,rfl,by simp,by unfold zA;omega,fun _=>rfl,by simp⟩
theorem gJ (w:World) (l:List ByteArray) (hz:∀s∈l,zA s.size) (hl:l.length≤4096):Ss l (.slice (some ⟨w.heap.size,0,none⟩) l.length l.length) (w.alloc (.cells (l.map Value.string).toArray 9)):=by
 refine⟨some ⟨w.heap.size,0,none⟩,l.length,rfl,Nat.le_refl _,by unfold zA;omega,fun h=>(by cases h),fun i s hs=>⟨hz s (List.mem_of_getElem? hs),w.heap.size,0,rfl,?_⟩⟩
 rw[cell_of_row _ _ _ _ _ _ (heap_alloc_new _ _)]
 simp[hs]
def y7 (l:List ByteArray):List Int × Int:=if l.Nodup then ((y1 (l.zip (List.range l.length))).map (fun p=>(p.2:Int)),0) else ([],71)
theorem bK {w w':World} {l:List ByteArray} {r:Ending} (hl:l.length≤65536) (h:mA w l r w'):jB w w'∧∃v,r=.returned (.tuple #[v,.int .i64 (y7 l).2])∧vE w' v (y7 l).1:=by
 obtain⟨hg,⟨hn,rfl⟩|⟨hn,v,rfl,blk,cap,p,rfl,hp,hs,hc,rfl⟩⟩:=h
 ·have e:y7 l=([],71):=by unfold y7;rw[if_neg hn]
  rw[e]
  exact⟨hg,_,rfl,vE.nil _⟩
 ·have e:y7 l=((y1 (l.zip (List.range l.length))).map (fun p=>(p.2:Int)),0):=by unfold y7;rw[if_pos hn]
  have h1:=fZ (l:=List.range l.length) (by simp) hp hs (⟨#[]⟩,0)
  have h2:(y1 (l.zip (List.range l.length))).map (fun p=>(p.2:Int))=p.map fun x=>((x.1:Nat):Int):=by
   rw[← h1,List.map_map]
   refine List.map_congr_left fun x hx=>?_
   simp[List.getD_eq_getElem?_getD,x.2]
  rw[e,h2]
  refine⟨hg,_,rfl,some ⟨blk,0,none⟩,l.length,by simp[Q0 hp],by simp[Q0 hp],by unfold zA;omega,fun h=>(by cases h),fun i x hx=>?_⟩
  ·rw[List.getElem?_map] at hx
   cases hq:p[i]? with
   | none=>rw[hq] at hx;cases hx
   | some q=>
    rw[hq] at hx
    cases hx
    exact⟨trivial,blk,0,rfl,by rw[Nat.zero_add];exact hc i q hq⟩
end Go.Proofs.YtjnpcddbgfmpcaaGreat
