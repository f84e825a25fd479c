/-
  Texts of the proof.
-/
import Derived.Test.YtjnpcddbgfmpcaaGreatDoorBMapsPAJ
import Derived.Laws.StructEq
set_option linter.unusedVariables false
set_option linter.unusedSimpArgs false
set_option maxHeartbeats 8000000
set_option maxRecDepth 100000
namespace Go.Proofs.YtjnpcddbgfmpcaaGreatDoor.Ft
open Go.Proofs.Tryz
open Go Go.RowKit
def K3 (a b c:Int):Value:=.agg #[.int .i64 a,.int .i64 b,.int .i64 c]
theorem equalK (a b c a' b' c':Int) (W:World):(Op.equal 136 (K3 a b c) (K3 a' b' c')).run prog W=.ok (decide (a=a'∧b=b'∧c=c')) W:=by
 have h1:=underlying136
 have h3:=underlying3
 have hf:Tryz.prog.underlying 136=some (.struct (Tryz.prog.fieldsOf 136)):=by kernel_rfl
 have hs:Tryz.prog.stoodInHeld 136=false:=by kernel_rfl
 have hff:Tryz.prog.fieldsOf 136=#[{name:="is",type:=3,offset:=0,embedded:=false,tag:="",pkgPath:="accordion/tag",byteOffset:=0},{name:="elem",type:=3,offset:=1,embedded:=false,tag:="",pkgPath:="accordion/tag",byteOffset:=8},{name:="many",type:=3,offset:=2,embedded:=false,tag:="",pkgPath:="accordion/tag",byteOffset:=16}]:=by kernel_rfl
 unfold Op.equal K3
 rw[show Op.maxDepth=9999+1 from rfl,run_equalIn_agg _ _ _ _ _ hf hs,hff]
 have g:∀(x y:Int),(Op.equalIn 9999 3 (.int .i64 x) (.int .i64 y)).run prog W=.ok (x == y) W:=fun x y=>run_equalIn_int W 9998 3 .i64 .i64 x y h3
 simp[go_sem,Op.eqFields,g]
 by_cases ha:a=a'<;>by_cases hb:b=b'<;>by_cases hc:c=c'<;>simp[ha,hb,hc]
theorem rY (a b c:Int) (e:Bool) (W:World):(Instr.checkKey e 10000 136 (K3 a b c)).run prog W=.ok () W:=by
 have h1:=underlying136
 have h3:=underlying3
 have hc:∀(x:Int) (W:World),(Instr.checkKey e 9999 3 (.int .i64 x)).run prog W=.ok () W:=fun x W=>MapKept.run_checkKey (k:=.int .i64 x) h3 (by simp[MapKept.IsKey]) e 9998
 unfold Instr.checkKey K3
 simp[go_sem,run_underlying h1,run_underlying h3,hc,Result.andThen]
def entK (p:(Int × Int × Int) × Int) (j:Nat):MapEntry:={key:=K3 p.1.1 p.1.2.1 p.1.2.2,val:=.int .i64 p.2,born:=j}
def qE:List ((Int × Int × Int) × Int)→Nat→List MapEntry
 | [],_=>[]
 | p::r,j=>entK p j::qE r (j+1)
def qW (k:Int × Int × Int):List ((Int × Int × Int) × Int)→Nat→Option (Nat × Int)
 | [],_=>none
 | p::r,j=>if k=p.1 then some (j,p.2) else qW k r (j+1)
theorem VW (k:Int × Int × Int) (W:World):∀(l:List ((Int × Int × Int) × Int)) (j i:Nat),(Instr.findAsking 136 (K3 k.1 k.2.1 k.2.2) (qE l j) i).run prog W=.ok ((qW k l i).map fun q=>(q.1,.int .i64 q.2)) W
 | [],j,i=>by simp[qE,Instr.findAsking,qW,Sem.run_pure]
 | p::r,j,i=>by
  have ih:=VW k W r (j+1) (i+1)
  unfold qE Instr.findAsking
  rw[Sem.run_bind,show (entK p j).key=K3 p.1.1 p.1.2.1 p.1.2.2 from rfl,equalK]
  by_cases h:k=p.1
  ·have hd:decide (k.1=p.1.1∧k.2.1=p.1.2.1∧k.2.2=p.1.2.2)=true:=by rw[h];simp
   rw[hd]
   simp[qW,h,Result.andThen,Sem.run_pure,entK]
  ·have hd:decide (k.1=p.1.1∧k.2.1=p.1.2.1∧k.2.2=p.1.2.2)=false:=by
    rw[decide_eq_false_iff_not]
    intro hh
    exact h (Prod.ext hh.1 (Prod.ext hh.2.1 hh.2.2))
   rw[hd]
   simp[qW,h,Result.andThen,ih]
theorem rZ (k:Value) (l:List MapEntry) (i:Nat) (h:l≠[]) (fs:Array Field):Instr.findNow (.struct fs) k l i=none:=by
 cases l with
 | nil=>exact absurd rfl h
 | cons e r=>simp[Instr.findNow,Instr.sameNow]
theorem iD (k:Int × Int × Int) (W:World) (l:List ((Int × Int × Int) × Int)) (j:Nat):(Instr.findKey 136 (K3 k.1 k.2.1 k.2.2) (qE l j)).run prog W=.ok ((qW k l 0).map fun q=>(q.1,.int .i64 q.2)) W:=by
 have h1:=underlying136
 cases l with
 | nil=>simp[Instr.findKey,run_underlying h1,Result.andThen,qE,Instr.findNow,qW,Sem.run_pure,Sem.run_bind]
 | cons p r=>
  have hn:∀fs,Instr.findNow (.struct fs) (K3 k.1 k.2.1 k.2.2) (qE (p::r) j) 0=none:=fun fs=>rZ _ _ _ (by simp[qE]) fs
  simp[Instr.findKey,run_underlying h1,Result.andThen,hn,VW]
theorem QS:∀(l:List ((Int × Int × Int) × Int)) (p:(Int × Int × Int) × Int) (j:Nat),qE (l++[p]) j=qE l j++[entK p (j+l.length)]
 | [],p,j=>by simp[qE]
 | q::r,p,j=>by simp[qE,QS r p (j+1)];congr 1;omega
theorem cX {ops:Array Oper} {rest:List Oper} {o:Oper} {a:Act} {Q:Exit→Act→World→Prop} (w:World) (hg:o.guard=none) (m x v:Operand) (hop:o.op=Op.mapUpdate 220 m x v) (r:Nat) (l:List ((Int × Int × Int) × Int))
 (hm:a.eval m=.map (some r)) (hb:w.heap[r]? = some (.map (qE l 0).toArray l.length)) (k:Int × Int × Int) (hx:a.eval x=K3 k.1 k.2.1 k.2.2) (t:Int) (hv:a.eval v=.int .i64 t) (hnew:qW k l 0=none)
 (h:∀w':World,w'.heap[r]? = some (.map (qE (l++[(k,t)]) 0).toArray (l++[(k,t)]).length)→(∀B,B≤r→Below B w w')→wpList prog ops Q rest (a.put o.dst undef) w'):wpList prog ops Q (o::rest) a w:=by
 have hf:=iD k w l 0
 rw[hnew] at hf
 have hc:=rY k.1 k.2.1 k.2.2 false w
 have hrun:(Instr.mapUpdate 220 (.map (some r)) (K3 k.1 k.2.1 k.2.2) (.int .i64 t)).run prog w=.ok () {w with heap:=w.heap.setIfInBounds r (.map ((qE l 0).toArray.push {key:=K3 k.1 k.2.1 k.2.2,val:=.int .i64 t,born:=l.length}) (l.length+1))}:=by
  simp[Instr.mapUpdate,run_underlying underlying220,MapKept.run_getObj_map hb,hc,hf,MapKept.run_setObj_map _ hb,Result.andThen]
 refine wpList_plain hg fun K hK=>?_
 unfold Oper.wp execOp
 simp only[hop,hm,hx,hv,Sem.run_bind,hrun,Result.andThen_ok]
 refine hK _ _ (h _ ?_ ?_)
 ·have:=(MapKept.heap_set (o':=.map ((qE l 0).toArray.push {key:=K3 k.1 k.2.1 k.2.2,val:=.int .i64 t,born:=l.length}) (l.length+1)) hb).1
  rw[this,QS]
  simp[entK]
 ·intro B hB
  exact⟨rfl,rfl,rfl,by simp,fun j hj=>(MapKept.heap_set (o':=.map ((qE l 0).toArray.push {key:=K3 k.1 k.2.1 k.2.2,val:=.int .i64 t,born:=l.length}) (l.length+1)) hb).2 j (by omega)⟩
theorem lookK (w:World) (r:Nat) (l:List ((Int × Int × Int) × Int)) (hb:w.heap[r]? = some (.map (qE l 0).toArray l.length)) (k:Int × Int × Int) :
 (Instr.lookup 220 (.map (some r)) (K3 k.1 k.2.1 k.2.2) true).run prog w=.ok (.tuple #[.int .i64 (match qW k l 0 with | some q=>q.2 | none=>0),.bool (qW k l 0).isSome]) w:=by
 have hf:=iD k w l 0
 have hc:=fun e=>rY k.1 k.2.1 k.2.2 e w
 have hz:=nW
 cases hq:qW k l 0 with
 | none=>rw[hq] at hf;simp[Instr.lookup,run_underlying underlying220,MapKept.run_getObj_map hb,hc,hf,Result.andThen,Sem.run_pure,Sem.run_bind,hz]
 | some q=>rw[hq] at hf;simp[Instr.lookup,run_underlying underlying220,MapKept.run_getObj_map hb,hc,hf,Result.andThen,Sem.run_pure,Sem.run_bind]
def JQ (i:Nat):List ((Int × Int × Int) × Int):=((List.range i).filter fun t=>(kindRow t).1 == 3).map fun t=>((((kindRow t).1:Int),((kindRow t).2.1:Int),((kindRow t).2.2:Int)),(t:Int))
theorem r2 (i:Nat) (h:(kindRow i).1=3):JQ (i+1)=JQ i++[((((kindRow i).1:Int),((kindRow i).2.1:Int),((kindRow i).2.2:Int)),(i:Int))]:=by
 unfold JQ;rw[List.range_succ,List.filter_append,List.map_append];simp[h]
theorem vecs_no (i:Nat) (h:(kindRow i).1≠3):JQ (i+1)=JQ i:=by
 unfold JQ;rw[List.range_succ,List.filter_append,List.map_append];simp[h]
theorem r3:∀i,i < 37→(kindRow i).1=3→qW (((kindRow i).1:Int),((kindRow i).2.1:Int),((kindRow i).2.2:Int)) (JQ i) 0=none:=by decide
def typedF (e m:Int):Int × Bool:=((match qW (3,e,m) (JQ 37) 0 with | some q=>q.2 | none=>0),(qW (3,e,m) (JQ 37) 0).isSome)
theorem typed_any (e m:Int) (w:World) :
 Calls prog 169 #[.int .i64 e,.int .i64 m] w fun r w'=>r=.returned (.tuple #[.int .i64 (typedF e m).1,.bool (typedF e m).2])∧jA w w':=by
 have hmm:=fun w=>run_makeMap_plain (P:=prog) w 220
 go_enter func169,ntmps169
 go_wp2_with fail
 refine (dL _).mono ?_
 rintro r w1 ⟨rfl,hg⟩
 have H0:Hid (w1.heap[w.heap.size]? = some (.map (qE (JQ 0) 0).toArray (JQ 0).length)∧Below w.heap.size w w1):=⟨jA.heap hg (heap_alloc_new w _),((jA.refl w).alloc _).trans hg⟩
 clear hg
 generalize hM:w.heap.size=M at *
 go_wp2_with fail
 go_loopw [7,8,11] (fun _ _ i wr=>∃k:Nat,k≤37∧i=.int .i64 k∧Hid (wr.heap[M]? = some (.map (qE (JQ k) 0).toArray (JQ k).length)∧Below M w wr)) (fun _ _ i _=>37 - (intOf i).toNat)
 case atStart=>exact⟨0,by omega,rfl,H0⟩
 case round=>
  obtain⟨k,hk,rfl,HW⟩:=hrel
  clear H0
  by_cases hlt:k < 37
  ·have hx:=fun w'=>YK (P:=prog) 170 136 37 3 vO .i64 (k:Int) w' underlying170 (nV w') zk (by omega) (by omega)
   rw[show ((k:Int)).toNat=k by omega,KF k hlt] at hx
   by_cases h3:(kindRow k).1=3
   ·have HY:=zh (r2 k h3)
    have HN:=zh (r3 k hlt h3)
    generalize kindRow k=q at *
    obtain⟨q1,q2,q3⟩:=q
    simp only at h3
    subst h3
    unfold qU at hx
    have HB1:Hid ((wr.alloc (.cells #[.int .i64 3,.int .i64 q2,.int .i64 q3] 136)).heap[M]? = some (.map (qE (JQ k) 0).toArray (JQ k).length)):=jA.heap ((jA.refl wr).alloc _) HW.out.1
    have HG:=zh HW.out.2
    have hMw:M≤wr.heap.size:=Nat.le_of_lt (Array.getElem?_eq_some_iff.1 HW.out.1).1
    clear HW
    go_wp2_with (refine cX _ rfl _ _ _ rfl M (JQ k) rfl HB1.out (((3:Nat):Int),(q2:Int),(q3:Int)) rfl k rfl HN.out ?_;intro w' hb' hbel;rw[← HY.out] at hb';have HX:=zh (And.intro hb' (Below.trans (Below.alloc HG.out hMw _) (hbel M (Nat.le_refl _))));clear hb' hbel)
    go_wp2
    go_roundw
    case rel=>exact⟨k+1,by omega,by go_num,HX⟩
    case measure=>simp[intOf];omega
   ·have HY:=zh (vecs_no k h3)
    have hb3:(((kindRow k).1:Int) == 3)=false:=by rw[beq_eq_false_iff_ne];omega
    have hMw:M≤wr.heap.size:=Nat.le_of_lt (Array.getElem?_eq_some_iff.1 HW.out.1).1
    have HX:∀o:Obj,Hid ((wr.alloc o).heap[M]? = some (.map (qE (JQ (k+1)) 0).toArray (JQ (k+1)).length)∧Below M w (wr.alloc o)):=fun o=>by
     show _∧_
     rw[HY.out]
     exact⟨jA.heap ((jA.refl wr).alloc _) HW.out.1,Below.alloc HW.out.2 hMw _⟩
    have HXX:=zh HX
    clear h3 HX HW
    generalize kindRow k=q at *
    obtain⟨q1,q2,q3⟩:=q
    unfold qU at hx
    simp only at hb3
    go_wp2
    go_roundw
    case rel=>exact⟨k+1,by omega,by go_num,HXX.out _⟩
    case measure=>simp[intOf];omega
  ·obtain rfl:k=37:=by omega
   have hl:=lookK wr M (JQ 37) HW.out.1 (3,e,m)
   unfold K3 at hl
   have HT:Hid (typedF e m=((match qW (3,e,m) (JQ 37) 0 with | some q=>q.2 | none=>0),(qW (3,e,m) (JQ 37) 0).isSome)):=rfl
   simp only at hl
   generalize (match qW (3,e,m) (JQ 37) 0 with | some q=>q.2 | none=>0)=rr at *
   generalize (qW (3,e,m) (JQ 37) 0).isSome=bb at *
   go_wp2
   go_ret2
   refine⟨by rw[HT.out];rfl,?_⟩
   have:=HW.out.2
   rw[← hM] at this
   exact this
end Go.Proofs.YtjnpcddbgfmpcaaGreatDoor.Ft
