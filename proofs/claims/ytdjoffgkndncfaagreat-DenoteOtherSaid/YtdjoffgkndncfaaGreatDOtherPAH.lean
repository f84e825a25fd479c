/-Texts-/
import Derived.Test.YtdjoffgkndncfaaGreatDOtherPAB
import Derived.Test.YtdjoffgkndncfaaGreatProg
set_option linter.unusedVariables false
set_option linter.unusedSimpArgs false
set_option maxHeartbeats 1600000
set_option maxRecDepth 100000
namespace Go.Proofs.YtdjoffgkndncfaaGreat.Ft
open Go.Proofs.Tryz
open Go Go.RowKit
def kD (n:Nat):Array Value:=Array.replicate n (.int .i64 0)
def kindRow (t:Nat):Nat × Nat × Nat:=
 match t with
 | 0 | 1 | 2 | 26=>(1,0,0)
 | 4 | 5 | 6 | 7 | 9 | 10 | 25=>(2,0,0)
 | 11=>(3,1,0) | 12=>(3,2,0) | 14=>(3,4,0) | 36=>(3,26,0)
 | 16=>(3,1,2) | 19=>(3,1,3) | 22=>(3,1,4)
 | 17=>(3,2,2) | 20=>(3,2,3) | 23=>(3,2,4)
 | _=>(0,0,0)
def KR (p:Nat × Nat × Nat):Array Value:=#[.int .i64 p.1,.int .i64 p.2.1,.int .i64 p.2.2]
def Z1:Array Value:=((List.range 37).flatMap λt=>(KR (kindRow t)).toList).toArray
def kindOf (t:Int):Nat × Nat × Nat:=if t < 0 then (0,0,0) else kindRow t.toNat
theorem EI (w:World):(zeroValue 141).run prog w=.ok (.agg (kD 111)) w:=by kernel_rfl
theorem oU:(Tryz.prog.info? 141).map (·.size)=some Z1.size:=by kernel_rfl
theorem DD (w:World):(isAgg 76).run prog w=.ok true w:=by kernel_rfl
theorem QU:∀(t:Nat),t < 37→Z1.extract (t*3) (t*3+3)=KR (kindRow t)
 | 0,_=>rfl
 | 1,_=>rfl
 | 2,_=>rfl
 | 3,_=>rfl
 | 4,_=>rfl
 | 5,_=>rfl
 | 6,_=>rfl
 | 7,_=>rfl
 | 8,_=>rfl
 | 9,_=>rfl
 | 10,_=>rfl
 | 11,_=>rfl
 | 12,_=>rfl
 | 13,_=>rfl
 | 14,_=>rfl
 | 15,_=>rfl
 | 16,_=>rfl
 | 17,_=>rfl
 | 18,_=>rfl
 | 19,_=>rfl
 | 20,_=>rfl
 | 21,_=>rfl
 | 22,_=>rfl
 | 23,_=>rfl
 | 24,_=>rfl
 | 25,_=>rfl
 | 26,_=>rfl
 | 27,_=>rfl
 | 28,_=>rfl
 | 29,_=>rfl
 | 30,_=>rfl
 | 31,_=>rfl
 | 32,_=>rfl
 | 33,_=>rfl
 | 34,_=>rfl
 | 35,_=>rfl
 | 36,_=>rfl
 | n+37,h=>absurd h zo
theorem oV (w:World) :
 Calls prog 106 #[] w λe w'=>e=.returned (.agg Z1)∧jC w w':=by
 have hz:=EI;go_enter func106,ntmps106;go_wp2_with (first | (with_reducible refine iQ rfl 141 _ rfl Z1 zk ?_) | (with_reducible refine wpList_store_row rfl 141 _ _ rfl w.heap.size Z1 rfl zk 141 (kD 111) (qc _ _) oU zk zk ?_));rw[r6];exact bodyPost_ret (results_cell_row (cs:=Z1) rfl _ _ w.heap.size 141 (0,0) _ (by rfl) (qc _ _) underlying141 rfl oU) rfl ⟨rfl,(jC.refl w).alloc _⟩
theorem BE (t:Int) (w:World) :
 Calls prog 49 #[.int .i64 t] w λe w'=>e=.returned (.agg (KR (kindOf t)))∧jC w w':=by
 by_cases h0:t < 0
 ·go_enter func49,ntmps49;go_wp2;exact bodyPost_ret (v:=.agg (KR (kindOf t))) (by simp[results,results49,go_sem,KR,kindOf,h0]) rfl ⟨rfl,(jC.refl w).alloc _⟩
 by_cases h1:37≤t
 ·have hk:kindOf t=(0,0,0):=by
   unfold kindOf;rw[ze h0];obtain⟨n,rfl⟩:=Int.eq_ofNat_of_zero_le (by omega:0≤t);obtain⟨m,rfl⟩:∃m,n=m+37:=⟨n - 37,by omega⟩;rfl
  go_enter func49,ntmps49;go_wp2;exact bodyPost_ret (v:=.agg (KR (kindOf t))) (by simp[results,results49,go_sem,KR,hk]) rfl ⟨by rw[hk],(jC.refl w).alloc _⟩
 have hk:kindOf t=kindRow t.toNat:=by unfold kindOf;rw[ze h0]
 have hx:=λw'=>bY (P:=prog) 141 76 37 3 Z1 .i64 t w' underlying141 (DD w') zk zo zo;rw[QU t.toNat zo,← hk] at hx;generalize kindOf t=k at *;clear hk;go_enter func49,ntmps49;unfold KR at hx;go_wp2_with fail;refine (oV _).mono ?_;rintro e w1 ⟨rfl,hg⟩;obtain⟨hc,hf,hs⟩:=hg.rules;simp only[zm] at hc hf hs;go_wp2;exact bodyPost_ret (v:=.agg (KR k)) (by simp[results,results49,go_sem,KR,hc,hf]) rfl ⟨rfl,(((((jC.refl w).alloc _).trans hg).setCell zp2 _).setCell zp2 _).setCell zp2 _⟩
@[local go_sem] theorem field_is (a b c:Value) (w:World):(Instr.field 76 (.agg #[a,b,c]) 0).run prog w=.ok a w:=by kernel_rfl
def inlineB (t:Int):Bool:=decide ((kindOf t).1=1)
theorem inline_any (t:Int) (w:World) :
 Calls prog 100 #[.int .i64 t] w λe w'=>e=.returned (.bool (inlineB t))∧jC w w':=by
 go_enter func100,ntmps100;go_wp2_with fail;refine (BE _ _).mono ?_;rintro e w1 ⟨rfl,hg⟩;have hi:(((kindOf t).1:Int) == 1)=inlineB t:=by unfold inlineB;rw[Bool.eq_iff_iff];simp;omega
 unfold KR;go_wp2;go_ret;exact⟨by rw[← hi];rfl,hg⟩
end Go.Proofs.YtdjoffgkndncfaaGreat.Ft
