/-
  Texts of the proof.
-/
import Derived.WalkKit
import Derived.WalkSpells
import Derived.WalkLawsBesides
import Derived.Test.YtjnpcddbgfmpcaaGreatDoorBMapsPAB
set_option linter.unusedVariables false
set_option linter.unusedSimpArgs false
namespace Go.Proofs.YtjnpcddbgfmpcaaGreatDoor
open Go Go.RowKit
theorem qA {k:IntKind} {a b:Int} (h:a=b):Ending.returned (.int k a)=.returned (.int k b):=by rw[h]
theorem ZI {a b:Bool} (h:a=b):Ending.returned (.bool a)=.returned (.bool b):=by rw[h]
section
variable {P:Program}
theorem aH {ops:Array Oper} {rest:List Oper} {o:Oper} {a:Act} {w:World} {Q:Exit→Act→World→Prop} (hg:o.guard=none) (t:TypeId) (parts:Array (Nat × Operand)) (ho:o.op=.build t parts)
 (cells:Array Value) (hf:P.built t (parts.map fun (i,x)=>(i,a.eval x)).toList=some cells)
 (h:wpList P ops Q rest (a.put o.dst (.agg cells)) w):wpList P ops Q (o::rest) a w:=
 wpList_build hg t parts ho (by rw[hf];rfl) (by rw[hf];exact h)
theorem YK (t e:TypeId) (n sz:Nat) (cs:Array Value) (k:IntKind) (i:Int) (w:World) (h:P.underlying t=some (.array n e))
 (he:(isAgg e).run P w=.ok true w) (hs:(P.info? e).map (·.size)=some sz) (h0:0≤i) (h1:i < n) :
 (Instr.index t (.agg cs) (.int k i)).run P w=.ok (.agg (cs.extract (i.toNat*sz) (i.toNat*sz+sz))) w:=by
 have hn:0≤i∧i < (n:Int):=⟨h0,h1⟩
 cases hq:P.info? e with
 | none=>simp[hq] at hs
 | some ie=>
  have hsz:ie.size=sz:=by simpa [hq] using hs
  have hso:(sizeOf e).run P w=.ok sz w:=by simp[sizeOf,typeInfo,hq,hsz]
  unfold Instr.index
  simp only[asIntOf,Sem.run_bind,Sem.run_pure,Result.andThen_ok,run_underlying h,hn,and_self,if_true,hso,part,he]
theorem fG (w:World) (cs old:Array Value) (t:TypeId) (fr:Nat × Nat):(w.alloc (.cells old t fr)).setRow w.heap.size cs=w.alloc (.cells cs t fr):=by
 unfold World.setRow World.alloc
 simp only[World.mk.injEq,and_true,true_and]
 apply Array.ext
 ·simp
 ·intro i h1 h2
  rw[Array.getElem_modify]
  split
  ·rename_i he;subst he;simp
  ·rename_i he
   simp at h1 h2
   rw[Array.getElem_push_lt (by omega),Array.getElem_push_lt (by omega)]
end
end Go.Proofs.YtjnpcddbgfmpcaaGreatDoor
