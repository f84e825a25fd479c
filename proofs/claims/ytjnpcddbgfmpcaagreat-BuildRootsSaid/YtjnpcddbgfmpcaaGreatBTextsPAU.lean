/-
  Texts of the proof.
-/
import Derived.Test.YtjnpcddbgfmpcaaGreatBTextsPAT
import Derived.Laws.StructEq
set_option linter.unusedVariables false
set_option linter.unusedSimpArgs false
set_option maxHeartbeats 8000000
set_option maxRecDepth 100000
namespace Go.Proofs.YtjnpcddbgfmpcaaGreat.Ft
open Go.Proofs.Tryz
open Go Go.RowKit
def K3 (a b c:Int):Value:=.agg #[.int .i64 a,.int .i64 b,.int .i64 c]
theorem equalK (a b c a' b' c':Int) (W:World):(Op.equal 168 (K3 a b c) (K3 a' b' c')).run prog W=.ok (decide (a=a'∧b=b'∧c=c')) W:=by
 have h1:=underlying168
 have h3:=underlying3
 have hf:Tryz.prog.underlying 168=some (.struct (Tryz.prog.fieldsOf 168)):=by kernel_rfl
 have hs:Tryz.prog.stoodInHeld 168=false:=by kernel_rfl
 have hff:Tryz.prog.fieldsOf 168=#[{name:="is",type:=3,offset:=0,embedded:=false,tag:="",pkgPath:="accordion/tag",byteOffset:=0},{name:="elem",type:=3,offset:=1,embedded:=false,tag:="",pkgPath:="accordion/tag",byteOffset:=8},{name:="many",type:=3,offset:=2,embedded:=false,tag:="",pkgPath:="accordion/tag",byteOffset:=16}]:=by kernel_rfl
 unfold Op.equal K3
 rw[show Op.maxDepth=9999+1 from rfl,run_equalIn_agg _ _ _ _ _ hf hs,hff]
 have g:∀(x y:Int),(Op.equalIn 9999 3 (.int .i64 x) (.int .i64 y)).run prog W=.ok (x == y) W:=fun x y=>run_equalIn_int W 9998 3 .i64 .i64 x y h3
 simp[go_sem,Op.eqFields,g]
 by_cases ha:a=a'<;>by_cases hb:b=b'<;>by_cases hc:c=c'<;>simp[ha,hb,hc]
theorem mK (a b c:Int) (e:Bool) (W:World):(Instr.checkKey e 10000 168 (K3 a b c)).run prog W=.ok () W:=by
 have h1:=underlying168
 have h3:=underlying3
 have hc:∀(x:Int) (W:World),(Instr.checkKey e 9999 3 (.int .i64 x)).run prog W=.ok () W:=fun x W=>MapKept.run_checkKey (k:=.int .i64 x) h3 (by simp[MapKept.IsKey]) e 9998
 unfold Instr.checkKey K3
 simp[go_sem,run_underlying h1,run_underlying h3,hc,Result.andThen]
def entK (p:(Int × Int × Int) × Int) (j:Nat):MapEntry:={key:=K3 p.1.1 p.1.2.1 p.1.2.2,val:=.int .i64 p.2,born:=j}
def y0:List ((Int × Int × Int) × Int)→Nat→List MapEntry
 | [],_=>[]
 | p::r,j=>entK p j::y0 r (j+1)
def qJ (k:Int × Int × Int):List ((Int × Int × Int) × Int)→Nat→Option (Nat × Int)
 | [],_=>none
 | p::r,j=>if k=p.1 then some (j,p.2) else qJ k r (j+1)
theorem Y1 (k:Int × Int × Int) (W:World):∀(l:List ((Int × Int × Int) × Int)) (j i:Nat),(Instr.findAsking 168 (K3 k.1 k.2.1 k.2.2) (y0 l j) i).run prog W=.ok ((qJ k l i).map fun q=>(q.1,.int .i64 q.2)) W
 | [],j,i=>by simp[y0,Instr.findAsking,qJ,Sem.run_pure]
 | p::r,j,i=>by
  have ih:=Y1 k W r (j+1) (i+1)
  unfold y0 Instr.findAsking
  rw[Sem.run_bind,show (entK p j).key=K3 p.1.1 p.1.2.1 p.1.2.2 from rfl,equalK]
  by_cases h:k=p.1
  ·have hd:decide (k.1=p.1.1∧k.2.1=p.1.2.1∧k.2.2=p.1.2.2)=true:=by rw[h];simp
   rw[hd]
   simp[qJ,h,Result.andThen,Sem.run_pure,entK]
  ·have hd:decide (k.1=p.1.1∧k.2.1=p.1.2.1∧k.2.2=p.1.2.2)=false:=by
    rw[decide_eq_false_iff_not]
    intro hh
    exact h (Prod.ext hh.1 (Prod.ext hh.2.1 hh.2.2))
   rw[hd]
   simp[qJ,h,Result.andThen,ih]
theorem mL (k:Value) (l:List MapEntry) (i:Nat) (h:l≠[]) (fs:Array Field):Instr.findNow (.struct fs) k l i=none:=by
 cases l with
 | nil=>exact absurd rfl h
 | cons e r=>simp[Instr.findNow,Instr.sameNow]
theorem dI (k:Int × Int × Int) (W:World) (l:List ((Int × Int × Int) × Int)) (j:Nat):(Instr.findKey 168 (K3 k.1 k.2.1 k.2.2) (y0 l j)).run prog W=.ok ((qJ k l 0).map fun q=>(q.1,.int .i64 q.2)) W:=by
 have h1:=underlying168
 cases l with
 | nil=>simp[Instr.findKey,run_underlying h1,Result.andThen,y0,Instr.findNow,qJ,Sem.run_pure,Sem.run_bind]
 | cons p r=>
  have hn:∀fs,Instr.findNow (.struct fs) (K3 k.1 k.2.1 k.2.2) (y0 (p::r) j) 0=none:=fun fs=>mL _ _ _ (by simp[y0]) fs
  simp[Instr.findKey,run_underlying h1,Result.andThen,hn,Y1]
theorem Z2:∀(l:List ((Int × Int × Int) × Int)) (p:(Int × Int × Int) × Int) (j:Nat),y0 (l++[p]) j=y0 l j++[entK p (j+l.length)]
 | [],p,j=>by simp[y0]
 | q::r,p,j=>by simp[y0,Z2 r p (j+1)];congr 1;omega
theorem V2 {ops:Array Oper} {rest:List Oper} {o:Oper} {a:Act} {Q:Exit→Act→World→Prop} (w:World) (hg:o.guard=none) (m x v:Operand) (hop:o.op=Op.mapUpdate 251 m x v) (r:Nat) (l:List ((Int × Int × Int) × Int))
 (hm:a.eval m=.map (some r)) (hb:w.heap[r]? = some (.map (y0 l 0).toArray l.length)) (k:Int × Int × Int) (hx:a.eval x=K3 k.1 k.2.1 k.2.2) (t:Int) (hv:a.eval v=.int .i64 t) (hnew:qJ k l 0=none)
 (h:∀w':World,w'.heap[r]? = some (.map (y0 (l++[(k,t)]) 0).toArray (l++[(k,t)]).length)→(∀B,B≤r→Below B w w')→wpList prog ops Q rest (a.put o.dst undef) w'):wpList prog ops Q (o::rest) a w:=by
 have hf:=dI k w l 0
 rw[hnew] at hf
 have hc:=mK k.1 k.2.1 k.2.2 false w
 have hrun:(Instr.mapUpdate 251 (.map (some r)) (K3 k.1 k.2.1 k.2.2) (.int .i64 t)).run prog w=.ok () {w with heap:=w.heap.setIfInBounds r (.map ((y0 l 0).toArray.push {key:=K3 k.1 k.2.1 k.2.2,val:=.int .i64 t,born:=l.length}) (l.length+1))}:=by
  simp[Instr.mapUpdate,run_underlying underlying251,MapKept.run_getObj_map hb,hc,hf,MapKept.run_setObj_map _ hb,Result.andThen]
 refine wpList_plain hg fun K hK=>?_
 unfold Oper.wp execOp
 simp only[hop,hm,hx,hv,Sem.run_bind,hrun,Result.andThen_ok]
 refine hK _ _ (h _ ?_ ?_)
 ·have:=(MapKept.heap_set (o':=.map ((y0 l 0).toArray.push {key:=K3 k.1 k.2.1 k.2.2,val:=.int .i64 t,born:=l.length}) (l.length+1)) hb).1
  rw[this,Z2]
  simp[entK]
 ·intro B hB
  exact⟨rfl,rfl,rfl,by simp,fun j hj=>(MapKept.heap_set (o':=.map ((y0 l 0).toArray.push {key:=K3 k.1 k.2.1 k.2.2,val:=.int .i64 t,born:=l.length}) (l.length+1)) hb).2 j (by omega)⟩
theorem lookK (w:World) (r:Nat) (l:List ((Int × Int × Int) × Int)) (hb:w.heap[r]? = some (.map (y0 l 0).toArray l.length)) (k:Int × Int × Int) :
 (Instr.lookup 251 (.map (some r)) (K3 k.1 k.2.1 k.2.2) true).run prog w=.ok (.tuple #[.int .i64 (match qJ k l 0 with | some q=>q.2 | none=>0),.bool (qJ k l 0).isSome]) w:=by
 have hf:=dI k w l 0
 have hc:=fun e=>mK k.1 k.2.1 k.2.2 e w
 have hz:=hZ
 cases hq:qJ k l 0 with
 | none=>rw[hq] at hf;simp[Instr.lookup,run_underlying underlying251,MapKept.run_getObj_map hb,hc,hf,Result.andThen,Sem.run_pure,Sem.run_bind,hz]
 | some q=>rw[hq] at hf;simp[Instr.lookup,run_underlying underlying251,MapKept.run_getObj_map hb,hc,hf,Result.andThen,Sem.run_pure,Sem.run_bind]
def vP (i:Nat):List ((Int × Int × Int) × Int):=((List.range i).filter fun t=>(kindRow t).1 == 3).map fun t=>((((kindRow t).1:Int),((kindRow t).2.1:Int),((kindRow t).2.2:Int)),(t:Int))
theorem mM (i:Nat) (h:(kindRow i).1=3):vP (i+1)=vP i++[((((kindRow i).1:Int),((kindRow i).2.1:Int),((kindRow i).2.2:Int)),(i:Int))]:=by
 unfold vP;rw[List.range_succ,List.filter_append,List.map_append];simp[h]
theorem vecs_no (i:Nat) (h:(kindRow i).1≠3):vP (i+1)=vP i:=by
 unfold vP;rw[List.range_succ,List.filter_append,List.map_append];simp[h]
theorem mN:∀i,i < 37→(kindRow i).1=3→qJ (((kindRow i).1:Int),((kindRow i).2.1:Int),((kindRow i).2.2:Int)) (vP i) 0=none:=by decide
def typedF (e m:Int):Int × Bool:=((match qJ (3,e,m) (vP 37) 0 with | some q=>q.2 | none=>0),(qJ (3,e,m) (vP 37) 0).isSome)
theorem typed_any (e m:Int) (w:World) :
 Calls prog 219 #[.int .i64 e,.int .i64 m] w fun r w'=>r=.returned (.tuple #[.int .i64 (typedF e m).1,.bool (typedF e m).2])∧jB w w':=by
 have hmm:=fun w=>run_makeMap_plain (P:=prog) w 251
 go_enter func219,ntmps219
 go_wp2_with fail
 refine (aL _).mono ?_
 rintro r w1 ⟨rfl,hg⟩
 have H0:Hid (w1.heap[w.heap.size]? = some (.map (y0 (vP 0) 0).toArray (vP 0).length)∧Below w.heap.size w w1):=⟨jB.heap hg (heap_alloc_new w _),((jB.refl w).alloc _).trans hg⟩
 clear hg
 generalize hM:w.heap.size=M at *
 go_wp2_with fail
 go_loopw [7,8,11] (fun _ _ i wr=>∃k:Nat,k≤37∧i=.int .i64 k∧Hid (wr.heap[M]? = some (.map (y0 (vP k) 0).toArray (vP k).length)∧Below M w wr)) (fun _ _ i _=>37 - (intOf i).toNat)
 case atStart=>exact⟨0,by omega,rfl,H0⟩
 case round=>
  obtain⟨k,hk,rfl,HW⟩:=hrel
  clear H0
  by_cases hlt:k < 37
  ·have hx:=fun w'=>ZB (P:=prog) 208 168 37 3 q8 .i64 (k:Int) w' underlying208 (hU w') zk (by omega) (by omega)
   rw[show ((k:Int)).toNat=k by omega,JJ k hlt] at hx
   by_cases h3:(kindRow k).1=3
   ·have HY:=zh (mM k h3)
    have HN:=zh (mN k hlt h3)
    generalize kindRow k=q at *
    obtain⟨q1,q2,q3⟩:=q
    simp only at h3
    subst h3
    unfold qL at hx
    have HB1:Hid ((wr.alloc (.cells #[.int .i64 3,.int .i64 q2,.int .i64 q3] 168)).heap[M]? = some (.map (y0 (vP k) 0).toArray (vP k).length)):=jB.heap ((jB.refl wr).alloc _) HW.out.1
    have HG:=zh HW.out.2
    have hMw:M≤wr.heap.size:=Nat.le_of_lt (Array.getElem?_eq_some_iff.1 HW.out.1).1
    clear HW
    go_wp2_with (refine V2 _ rfl _ _ _ rfl M (vP k) rfl HB1.out (((3:Nat):Int),(q2:Int),(q3:Int)) rfl k rfl HN.out ?_;intro w' hb' hbel;rw[← HY.out] at hb';have HX:=zh (And.intro hb' (Below.trans (Below.alloc HG.out hMw _) (hbel M (Nat.le_refl _))));clear hb' hbel)
    go_wp2
    go_roundw
    case rel=>exact⟨k+1,by omega,by go_num,HX⟩
    case measure=>simp[intOf];omega
   ·have HY:=zh (vecs_no k h3)
    have hb3:(((kindRow k).1:Int) == 3)=false:=by rw[beq_eq_false_iff_ne];omega
    have hMw:M≤wr.heap.size:=Nat.le_of_lt (Array.getElem?_eq_some_iff.1 HW.out.1).1
    have HX:∀o:Obj,Hid ((wr.alloc o).heap[M]? = some (.map (y0 (vP (k+1)) 0).toArray (vP (k+1)).length)∧Below M w (wr.alloc o)):=fun o=>by
     show _∧_
     rw[HY.out]
     exact⟨jB.heap ((jB.refl wr).alloc _) HW.out.1,Below.alloc HW.out.2 hMw _⟩
    have HXX:=zh HX
    clear h3 HX HW
    generalize kindRow k=q at *
    obtain⟨q1,q2,q3⟩:=q
    unfold qL at hx
    simp only at hb3
    go_wp2
    go_roundw
    case rel=>exact⟨k+1,by omega,by go_num,HXX.out _⟩
    case measure=>simp[intOf];omega
  ·obtain rfl:k=37:=by omega
   have hl:=lookK wr M (vP 37) HW.out.1 (3,e,m)
   unfold K3 at hl
   have HT:Hid (typedF e m=((match qJ (3,e,m) (vP 37) 0 with | some q=>q.2 | none=>0),(qJ (3,e,m) (vP 37) 0).isSome)):=rfl
   simp only at hl
   generalize (match qJ (3,e,m) (vP 37) 0 with | some q=>q.2 | none=>0)=rr at *
   generalize (qJ (3,e,m) (vP 37) 0).isSome=bb at *
   go_wp2
   go_ret2
   refine⟨by rw[HT.out];rfl,?_⟩
   have:=HW.out.2
   rw[← hM] at this
   exact this
end Go.Proofs.YtjnpcddbgfmpcaaGreat.Ft
