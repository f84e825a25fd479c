/-Texts-/
import Derived.Test.YtdjoffgkndncfaaGreatDOtherPAA
import Derived.Laws.StructEq
import Derived.MapKept
set_option linter.unusedVariables false
set_option linter.unusedSimpArgs false
namespace Go.Proofs.YtdjoffgkndncfaaGreat
open Go Go.RowKit
section
variable {P:Program} {mt kt et:TypeId}
def entI (p:Int × Value) (j:Nat):MapEntry:={key:=.int .i64 p.1,val:=p.2,born:=j}
def VZ:List (Int × Value)→Nat→List MapEntry
 | [],_=>[]
 | p::r,j=>entI p j::VZ r (j+1)
def YD (k:Int):List (Int × Value)→Nat→Option (Nat × Value)
 | [],_=>none
 | p::r,j=>if k=p.1 then some (j,p.2) else YD k r (j+1)
theorem dS (k:Int):∀(l:List (Int × Value)) (j i:Nat),Instr.findNow (.int .i64) (.int .i64 k) (VZ l j) i=some (YD k l i)
 | [],j,i=>rfl
 | p::r,j,i=>by
  have ih:=dS k r (j+1) (i+1);by_cases h:k=p.1
  ·simp[VZ,Instr.findNow,Instr.sameNow,YD,h,entI]
  have hb:(k == p.1)=false:=by simpa using h
  simp[VZ,Instr.findNow,Instr.sameNow,YD,h,entI,hb,ih]
theorem dU:∀(l:List (Int × Value)) (p:Int × Value) (j:Nat),VZ (l++[p]) j=VZ l j++[entI p (j+l.length)]
 | [],p,j=>by simp[VZ]
 | q::r,p,j=>by simp[VZ,dU r p (j+1)];congr 1;omega
def oA (w:World) (r:Nat) (l:List (Int × Value)):Prop:=w.heap[r]? = some (.map (VZ l 0).toArray l.length)
theorem cC {ops:Array Oper} {rest:List Oper} {o:Oper} {a:Act} {Q:Exit→Act→World→Prop} (w:World) (hmt:P.underlying mt=some (.map kt et)) (hkt:P.underlying kt=some (.int .i64)) (hg:o.guard=none) (m x v:Operand) (hop:o.op=Op.insert mt m x v) (r:Nat) (l:List (Int × Value))
 (hm:a.eval m=.map (some r)) (hb:oA w r l) (k:Int) (hx:a.eval x=.int .i64 k) (t:Value) (hv:a.eval v=t) (hnew:YD k l 0=none)
 (h:∀w':World,oA w' r (l++[(k,t)])→(∀B,B≤r→Below B w w')→w'.heap.size=w.heap.size→wpList P ops Q rest (a.put o.dst undef) w'):wpList P ops Q (o::rest) a w:=by
 have hf:=MapKept.run_findKey (w:=w) hkt (dS k l 0 0);rw[hnew] at hf;have hc:=MapKept.run_checkKey (w:=w) (k:=.int .i64 k) hkt A3 false 9999
 have hrun:(Instr.mapUpdate mt (.map (some r)) (.int .i64 k) t).run P w=.ok () {w with heap:=w.heap.setIfInBounds r (.map ((VZ l 0).toArray.push {key:=.int .i64 k,val:=t,born:=l.length}) (l.length+1))}:=by
  simp[Instr.mapUpdate,run_underlying hmt,MapKept.run_getObj_map hb,hc,hf,MapKept.run_setObj_map _ hb,Result.andThen]
 refine wpList_plain hg λK hK=>?_;unfold Oper.wp execOp;simp only[hop,hm,hx,hv,Sem.run_bind,hrun,Result.andThen_ok];refine hK _ _ (h _ ?_ ?_ zp2)
 ·have:=(MapKept.heap_set (o':=.map ((VZ l 0).toArray.push {key:=.int .i64 k,val:=t,born:=l.length}) (l.length+1)) hb).1;unfold oA;rw[this,dU];simp[entI]
 intro B hB;exact⟨rfl,rfl,rfl,by simp,λj hj=>(MapKept.heap_set (o':=.map ((VZ l 0).toArray.push {key:=.int .i64 k,val:=t,born:=l.length}) (l.length+1)) hb).2 j zo⟩
theorem lookI (w:World) (hmt:P.underlying mt=some (.map kt et)) (hkt:P.underlying kt=some (.int .i64)) {z:Value} (hz:(zeroValue et).run P w=.ok z w) (r:Nat) (l:List (Int × Value)) (hb:oA w r l) (k:Int) :
 (Instr.lookup mt (.map (some r)) (.int .i64 k) false).run P w=.ok (match YD k l 0 with | some q=>q.2 | none=>z) w:=by
 have hf:=MapKept.run_findKey (w:=w) hkt (dS k l 0 0);have hc:=λe=>MapKept.run_checkKey (w:=w) (k:=.int .i64 k) hkt A3 e 9999
 cases hq:YD k l 0 with
 | none=>rw[hq] at hf;simp[Instr.lookup,run_underlying hmt,MapKept.run_getObj_map hb,hc,hf,Result.andThen,Sem.run_pure,Sem.run_bind,hz]
 | some q=>rw[hq] at hf;simp[Instr.lookup,run_underlying hmt,MapKept.run_getObj_map hb,hc,hf,Result.andThen,Sem.run_pure,Sem.run_bind]
end
section
variable {P:Program} {mt kt et:TypeId}
def entU (p:Int × Value) (j:Nat):MapEntry:={key:=.int .u64 p.1,val:=p.2,born:=j}
def V0:List (Int × Value)→Nat→List MapEntry
 | [],_=>[]
 | p::r,j=>entU p j::V0 r (j+1)
def V1 (k:Int):List (Int × Value)→Nat→Option (Nat × Value)
 | [],_=>none
 | p::r,j=>if k=p.1 then some (j,p.2) else V1 k r (j+1)
theorem lV (k:Int):∀(l:List (Int × Value)) (j i:Nat),Instr.findNow (.int .u64) (.int .u64 k) (V0 l j) i=some (V1 k l i)
 | [],j,i=>rfl
 | p::r,j,i=>by
  have ih:=lV k r (j+1) (i+1);by_cases h:k=p.1
  ·simp[V0,Instr.findNow,Instr.sameNow,V1,h,entU]
  have hb:(k == p.1)=false:=by simpa using h
  simp[V0,Instr.findNow,Instr.sameNow,V1,h,entU,hb,ih]
theorem dV:∀(l:List (Int × Value)) (p:Int × Value) (j:Nat),V0 (l++[p]) j=V0 l j++[entU p (j+l.length)]
 | [],p,j=>by simp[V0]
 | q::r,p,j=>by simp[V0,dV r p (j+1)];congr 1;omega
def oB (w:World) (r:Nat) (l:List (Int × Value)):Prop:=w.heap[r]? = some (.map (V0 l 0).toArray l.length)
theorem gR {ops:Array Oper} {rest:List Oper} {o:Oper} {a:Act} {Q:Exit→Act→World→Prop} (w:World) (hmt:P.underlying mt=some (.map kt et)) (hkt:P.underlying kt=some (.int .u64)) (hg:o.guard=none) (m x v:Operand) (hop:o.op=Op.mapUpdate mt m x v) (r:Nat) (l:List (Int × Value))
 (hm:a.eval m=.map (some r)) (hb:oB w r l) (k:Int) (hx:a.eval x=.int .u64 k) (t:Value) (hv:a.eval v=t) (hnew:V1 k l 0=none)
 (h:∀w':World,oB w' r (l++[(k,t)])→w'.os=w.os→w'.tape=w.tape→w'.output=w.output→w'.heap.size=w.heap.size→(∀j,j≠r→w'.heap[j]? = w.heap[j]?)→wpList P ops Q rest (a.put o.dst undef) w'):wpList P ops Q (o::rest) a w:=by
 have hf:=MapKept.run_findKey (w:=w) hkt (lV k l 0 0);rw[hnew] at hf;have hc:=MapKept.run_checkKey (w:=w) (k:=.int .u64 k) hkt A3 false 9999
 have hrun:(Instr.mapUpdate mt (.map (some r)) (.int .u64 k) t).run P w=.ok () {w with heap:=w.heap.setIfInBounds r (.map ((V0 l 0).toArray.push {key:=.int .u64 k,val:=t,born:=l.length}) (l.length+1))}:=by
  simp[Instr.mapUpdate,run_underlying hmt,MapKept.run_getObj_map hb,hc,hf,MapKept.run_setObj_map _ hb,Result.andThen]
 refine wpList_plain hg λK hK=>?_;unfold Oper.wp execOp;simp only[hop,hm,hx,hv,Sem.run_bind,hrun,Result.andThen_ok];refine hK _ _ (h _ ?_ rfl rfl rfl zp2 ?_)
 ·have:=(MapKept.heap_set (o':=.map ((V0 l 0).toArray.push {key:=.int .u64 k,val:=t,born:=l.length}) (l.length+1)) hb).1;unfold oB;rw[this,dV];simp[entU]
 intro j hj;exact (MapKept.heap_set (o':=.map ((V0 l 0).toArray.push {key:=.int .u64 k,val:=t,born:=l.length}) (l.length+1)) hb).2 j hj
theorem lookU (w:World) (hmt:P.underlying mt=some (.map kt et)) (hkt:P.underlying kt=some (.int .u64)) {z:Value} (hz:(zeroValue et).run P w=.ok z w) (r:Nat) (l:List (Int × Value)) (hb:oB w r l) (k:Int) :
 (Instr.lookup mt (.map (some r)) (.int .u64 k) false).run P w=.ok (match V1 k l 0 with | some q=>q.2 | none=>z) w:=by
 have hf:=MapKept.run_findKey (w:=w) hkt (lV k l 0 0);have hc:=λe=>MapKept.run_checkKey (w:=w) (k:=.int .u64 k) hkt A3 e 9999
 cases hq:V1 k l 0 with
 | none=>rw[hq] at hf;simp[Instr.lookup,run_underlying hmt,MapKept.run_getObj_map hb,hc,hf,Result.andThen,Sem.run_pure,Sem.run_bind,hz]
 | some q=>rw[hq] at hf;simp[Instr.lookup,run_underlying hmt,MapKept.run_getObj_map hb,hc,hf,Result.andThen,Sem.run_pure,Sem.run_bind]
end
end Go.Proofs.YtdjoffgkndncfaaGreat
