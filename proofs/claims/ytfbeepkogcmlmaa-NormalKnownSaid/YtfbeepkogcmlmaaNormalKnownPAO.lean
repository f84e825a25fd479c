/-
  Texts of the proof.
-/
import Derived.Test.YtfbeepkogcmlmaaNormalKnownPAB
import Derived.Laws.StructEq
import Derived.MapKept
set_option linter.unusedVariables false
set_option linter.unusedSimpArgs false
namespace Go.Proofs.Ytfbeepkogcmlmaa
open Go Go.RowKit
section
variable {P:Program} {mt kt et:TypeId}
def entI (p:Int × Value) (j:Nat):MapEntry:={key:=.int .i64 p.1,val:=p.2,born:=j}
def qZ:List (Int × Value)→Nat→List MapEntry
 | [],_=>[]
 | p::r,j=>entI p j::qZ r (j+1)
def qQ (k:Int):List (Int × Value)→Nat→Option (Nat × Value)
 | [],_=>none
 | p::r,j=>if k=p.1 then some (j,p.2) else qQ k r (j+1)
theorem ZI (k:Int):∀(l:List (Int × Value)) (j i:Nat),Instr.findNow (.int .i64) (.int .i64 k) (qZ l j) i=some (qQ k l i)
 | [],j,i=>rfl
 | p::r,j,i=>by
  have ih:=ZI k r (j+1) (i+1)
  by_cases h:k=p.1
  ·simp[qZ,Instr.findNow,Instr.sameNow,qQ,h,entI]
  ·have hb:(k == p.1)=false:=by simpa using h
   simp[qZ,Instr.findNow,Instr.sameNow,qQ,h,entI,hb,ih]
theorem JL:∀(l:List (Int × Value)) (p:Int × Value) (j:Nat),qZ (l++[p]) j=qZ l j++[entI p (j+l.length)]
 | [],p,j=>by simp[qZ]
 | q::r,p,j=>by simp[qZ,JL r p (j+1)];congr 1;omega
def KU (w:World) (r:Nat) (l:List (Int × Value)):Prop:=w.heap[r]? = some (.map (qZ l 0).toArray l.length)
theorem Z1 {ops:Array Oper} {rest:List Oper} {o:Oper} {a:Act} {Q:Exit→Act→World→Prop} (w:World) (hmt:P.underlying mt=some (.map kt et)) (hkt:P.underlying kt=some (.int .i64)) (hg:o.guard=none) (m x v:Operand) (hop:o.op=Op.insert mt m x v) (r:Nat) (l:List (Int × Value))
 (hm:a.eval m=.map (some r)) (hb:KU w r l) (k:Int) (hx:a.eval x=.int .i64 k) (t:Value) (hv:a.eval v=t) (hnew:qQ k l 0=none)
 (h:∀w':World,KU w' r (l++[(k,t)])→(∀B,B≤r→Below B w w')→w'.heap.size=w.heap.size→wpList P ops Q rest (a.put o.dst undef) w'):wpList P ops Q (o::rest) a w:=by
 have hf:=MapKept.run_findKey (w:=w) hkt (ZI k l 0 0)
 rw[hnew] at hf
 have hc:=MapKept.run_checkKey (w:=w) (k:=.int .i64 k) hkt (by simp[MapKept.IsKey]) false 9999
 have hrun:(Instr.mapUpdate mt (.map (some r)) (.int .i64 k) t).run P w=.ok () {w with heap:=w.heap.setIfInBounds r (.map ((qZ l 0).toArray.push {key:=.int .i64 k,val:=t,born:=l.length}) (l.length+1))}:=by
  simp[Instr.mapUpdate,run_underlying hmt,MapKept.run_getObj_map hb,hc,hf,MapKept.run_setObj_map _ hb,Result.andThen]
 refine wpList_plain hg fun K hK=>?_
 unfold Oper.wp execOp
 simp only[hop,hm,hx,hv,Sem.run_bind,hrun,Result.andThen_ok]
 refine hK _ _ (h _ ?_ ?_ (by simp))
 ·have:=(MapKept.heap_set (o':=.map ((qZ l 0).toArray.push {key:=.int .i64 k,val:=t,born:=l.length}) (l.length+1)) hb).1
  unfold KU
  rw[this,JL]
  simp[entI]
 ·intro B hB
  exact⟨rfl,rfl,rfl,by simp,fun j hj=>(MapKept.heap_set (o':=.map ((qZ l 0).toArray.push {key:=.int .i64 k,val:=t,born:=l.length}) (l.length+1)) hb).2 j (by omega)⟩
theorem lookI (w:World) (hmt:P.underlying mt=some (.map kt et)) (hkt:P.underlying kt=some (.int .i64)) {z:Value} (hz:(zeroValue et).run P w=.ok z w) (r:Nat) (l:List (Int × Value)) (hb:KU w r l) (k:Int) :
 (Instr.lookup mt (.map (some r)) (.int .i64 k) false).run P w=.ok (match qQ k l 0 with | some q=>q.2 | none=>z) w:=by
 have hf:=MapKept.run_findKey (w:=w) hkt (ZI k l 0 0)
 have hc:=fun e=>MapKept.run_checkKey (w:=w) (k:=.int .i64 k) hkt (by simp[MapKept.IsKey]) e 9999
 cases hq:qQ k l 0 with
 | none=>rw[hq] at hf;simp[Instr.lookup,run_underlying hmt,MapKept.run_getObj_map hb,hc,hf,Result.andThen,Sem.run_pure,Sem.run_bind,hz]
 | some q=>rw[hq] at hf;simp[Instr.lookup,run_underlying hmt,MapKept.run_getObj_map hb,hc,hf,Result.andThen,Sem.run_pure,Sem.run_bind]
end
end Go.Proofs.Ytfbeepkogcmlmaa
