/-
  Texts of the proof.
-/
import Derived.Test.YtjnpcddbgfmpcaaGreatDoorBMapsPAB
import Derived.Laws.StructEq
import Derived.MapKept
set_option linter.unusedVariables false
set_option linter.unusedSimpArgs false
namespace Go.Proofs.YtjnpcddbgfmpcaaGreatDoor
open Go Go.RowKit
section
variable {P:Program} {mt kt et:TypeId}
end
section
variable {P:Program} {mt kt et:TypeId}
def entU (p:Int × Value) (j:Nat):MapEntry:={key:=.int .u64 p.1,val:=p.2,born:=j}
def K9:List (Int × Value)→Nat→List MapEntry
 | [],_=>[]
 | p::r,j=>entU p j::K9 r (j+1)
def ZA (k:Int):List (Int × Value)→Nat→Option (Nat × Value)
 | [],_=>none
 | p::r,j=>if k=p.1 then some (j,p.2) else ZA k r (j+1)
theorem bE (k:Int):∀(l:List (Int × Value)) (j i:Nat),Instr.findNow (.int .u64) (.int .u64 k) (K9 l j) i=some (ZA k l i)
 | [],j,i=>rfl
 | p::r,j,i=>by
  have ih:=bE k r (j+1) (i+1)
  by_cases h:k=p.1
  ·simp[K9,Instr.findNow,Instr.sameNow,ZA,h,entU]
  ·have hb:(k == p.1)=false:=by simpa using h
   simp[K9,Instr.findNow,Instr.sameNow,ZA,h,entU,hb,ih]
theorem QM:∀(l:List (Int × Value)) (p:Int × Value) (j:Nat),K9 (l++[p]) j=K9 l j++[entU p (j+l.length)]
 | [],p,j=>by simp[K9]
 | q::r,p,j=>by simp[K9,QM r p (j+1)];congr 1;omega
def cT (w:World) (r:Nat) (l:List (Int × Value)):Prop:=w.heap[r]? = some (.map (K9 l 0).toArray l.length)
theorem VU {ops:Array Oper} {rest:List Oper} {o:Oper} {a:Act} {Q:Exit→Act→World→Prop} (w:World) (hmt:P.underlying mt=some (.map kt et)) (hkt:P.underlying kt=some (.int .u64)) (hg:o.guard=none) (m x v:Operand) (hop:o.op=Op.mapUpdate mt m x v) (r:Nat) (l:List (Int × Value))
 (hm:a.eval m=.map (some r)) (hb:cT w r l) (k:Int) (hx:a.eval x=.int .u64 k) (t:Value) (hv:a.eval v=t) (hnew:ZA k l 0=none)
 (h:∀w':World,cT w' r (l++[(k,t)])→w'.os=w.os→w'.tape=w.tape→w'.output=w.output→w'.heap.size=w.heap.size→(∀j,j≠r→w'.heap[j]? = w.heap[j]?)→wpList P ops Q rest (a.put o.dst undef) w'):wpList P ops Q (o::rest) a w:=by
 have hf:=MapKept.run_findKey (w:=w) hkt (bE k l 0 0)
 rw[hnew] at hf
 have hc:=MapKept.run_checkKey (w:=w) (k:=.int .u64 k) hkt (by simp[MapKept.IsKey]) false 9999
 have hrun:(Instr.mapUpdate mt (.map (some r)) (.int .u64 k) t).run P w=.ok () {w with heap:=w.heap.setIfInBounds r (.map ((K9 l 0).toArray.push {key:=.int .u64 k,val:=t,born:=l.length}) (l.length+1))}:=by
  simp[Instr.mapUpdate,run_underlying hmt,MapKept.run_getObj_map hb,hc,hf,MapKept.run_setObj_map _ hb,Result.andThen]
 refine wpList_plain hg fun K hK=>?_
 unfold Oper.wp execOp
 simp only[hop,hm,hx,hv,Sem.run_bind,hrun,Result.andThen_ok]
 refine hK _ _ (h _ ?_ rfl rfl rfl (by simp) ?_)
 ·have:=(MapKept.heap_set (o':=.map ((K9 l 0).toArray.push {key:=.int .u64 k,val:=t,born:=l.length}) (l.length+1)) hb).1
  unfold cT
  rw[this,QM]
  simp[entU]
 ·intro j hj
  exact (MapKept.heap_set (o':=.map ((K9 l 0).toArray.push {key:=.int .u64 k,val:=t,born:=l.length}) (l.length+1)) hb).2 j hj
theorem lookU (w:World) (hmt:P.underlying mt=some (.map kt et)) (hkt:P.underlying kt=some (.int .u64)) {z:Value} (hz:(zeroValue et).run P w=.ok z w) (r:Nat) (l:List (Int × Value)) (hb:cT w r l) (k:Int) :
 (Instr.lookup mt (.map (some r)) (.int .u64 k) false).run P w=.ok (match ZA k l 0 with | some q=>q.2 | none=>z) w:=by
 have hf:=MapKept.run_findKey (w:=w) hkt (bE k l 0 0)
 have hc:=fun e=>MapKept.run_checkKey (w:=w) (k:=.int .u64 k) hkt (by simp[MapKept.IsKey]) e 9999
 cases hq:ZA k l 0 with
 | none=>rw[hq] at hf;simp[Instr.lookup,run_underlying hmt,MapKept.run_getObj_map hb,hc,hf,Result.andThen,Sem.run_pure,Sem.run_bind,hz]
 | some q=>rw[hq] at hf;simp[Instr.lookup,run_underlying hmt,MapKept.run_getObj_map hb,hc,hf,Result.andThen,Sem.run_pure,Sem.run_bind]
end
end Go.Proofs.YtjnpcddbgfmpcaaGreatDoor
