/-
  Texts of the proof.
-/
import Derived.Test.YtjnpcddbgfmpcaaGreatDoorBMapsPAC
import Derived.Test.YtjnpcddbgfmpcaaGreatDoorProg
set_option linter.unusedVariables false
set_option linter.unusedSimpArgs false
set_option maxHeartbeats 1600000
set_option maxRecDepth 100000
namespace Go.Proofs.YtjnpcddbgfmpcaaGreatDoor.Ft
open Go.Proofs.Tryz
open Go Go.RowKit
def j6 (n:Nat):Array Value:=Array.replicate n (.int .i64 0)
def kindRow (t:Nat):Nat × Nat × Nat:=
 match t with
 | 0 | 1 | 2 | 26=>(1,0,0)
 | 4 | 5 | 6 | 7 | 9 | 10 | 25=>(2,0,0)
 | 11=>(3,1,0) | 12=>(3,2,0) | 14=>(3,4,0) | 36=>(3,26,0)
 | 16=>(3,1,2) | 19=>(3,1,3) | 22=>(3,1,4)
 | 17=>(3,2,2) | 20=>(3,2,3) | 23=>(3,2,4)
 | _=>(0,0,0)
def qU (p:Nat × Nat × Nat):Array Value:=#[.int .i64 p.1,.int .i64 p.2.1,.int .i64 p.2.2]
def vO:Array Value:=((List.range 37).flatMap fun t=>(qU (kindRow t)).toList).toArray
def kindOf (t:Int):Nat × Nat × Nat:=if t < 0 then (0,0,0) else kindRow t.toNat
theorem oQ (w:World):(zeroValue 170).run prog w=.ok (.agg (j6 111)) w:=by kernel_rfl
theorem dK:(Tryz.prog.info? 170).map (·.size)=some vO.size:=by kernel_rfl
theorem nV (w:World):(isAgg 136).run prog w=.ok true w:=by kernel_rfl
theorem KF:∀(t:Nat),t < 37→vO.extract (t*3) (t*3+3)=qU (kindRow t)
 | 0,_=>rfl
 | 1,_=>rfl
 | 2,_=>rfl
 | 3,_=>rfl
 | 4,_=>rfl
 | 5,_=>rfl
 | 6,_=>rfl
 | 7,_=>rfl
 | 8,_=>rfl
 | 9,_=>rfl
 | 10,_=>rfl
 | 11,_=>rfl
 | 12,_=>rfl
 | 13,_=>rfl
 | 14,_=>rfl
 | 15,_=>rfl
 | 16,_=>rfl
 | 17,_=>rfl
 | 18,_=>rfl
 | 19,_=>rfl
 | 20,_=>rfl
 | 21,_=>rfl
 | 22,_=>rfl
 | 23,_=>rfl
 | 24,_=>rfl
 | 25,_=>rfl
 | 26,_=>rfl
 | 27,_=>rfl
 | 28,_=>rfl
 | 29,_=>rfl
 | 30,_=>rfl
 | 31,_=>rfl
 | 32,_=>rfl
 | 33,_=>rfl
 | 34,_=>rfl
 | 35,_=>rfl
 | 36,_=>rfl
 | n+37,h=>absurd h (by omega)
theorem dL (w:World) :
 Calls prog 127 #[] w fun e w'=>e=.returned (.agg vO)∧jA w w':=by
 have hz:=oQ
 go_enter func127,ntmps127
 go_wp2_with (first | (with_reducible refine aH rfl 170 _ rfl vO zk ?_) | (with_reducible refine wpList_store_row rfl 170 _ _ rfl w.heap.size vO rfl zk 170 (j6 111) (heap_alloc_new _ _) dK zk zk ?_))
 rw[fG]
 exact bodyPost_ret (results_cell_row (cs:=vO) rfl _ _ w.heap.size 170 (0,0) _ (by rfl) (heap_alloc_new _ _) underlying170 rfl dK) rfl ⟨rfl,(jA.refl w).alloc _⟩
theorem rP (t:Int) (w:World) :
 Calls prog 95 #[.int .i64 t] w fun e w'=>e=.returned (.agg (qU (kindOf t)))∧jA w w':=by
 by_cases h0:t < 0
 ·go_enter func95,ntmps95
  go_wp2
  exact bodyPost_ret (v:=.agg (qU (kindOf t))) (by simp[results,results95,go_sem,qU,kindOf,h0]) rfl ⟨rfl,(jA.refl w).alloc _⟩
 ·by_cases h1:37≤t
  ·have hk:kindOf t=(0,0,0):=by
    unfold kindOf
    rw[if_neg h0]
    obtain⟨n,rfl⟩:=Int.eq_ofNat_of_zero_le (by omega:0≤t)
    obtain⟨m,rfl⟩:∃m,n=m+37:=⟨n - 37,by omega⟩
    rfl
   go_enter func95,ntmps95
   go_wp2
   exact bodyPost_ret (v:=.agg (qU (kindOf t))) (by simp[results,results95,go_sem,qU,hk]) rfl ⟨by rw[hk],(jA.refl w).alloc _⟩
  ·have hk:kindOf t=kindRow t.toNat:=by unfold kindOf;rw[if_neg h0]
   have hx:=fun w'=>YK (P:=prog) 170 136 37 3 vO .i64 t w' underlying170 (nV w') zk (by omega) (by omega)
   rw[KF t.toNat (by omega),← hk] at hx
   generalize kindOf t=k at *
   clear hk
   go_enter func95,ntmps95
   unfold qU at hx
   go_wp2_with fail
   refine (dL _).mono ?_
   rintro e w1 ⟨rfl,hg⟩
   obtain⟨hc,hf,hs⟩:=hg.rules
   simp only[World.size_alloc] at hc hf hs
   go_wp2
   exact bodyPost_ret (v:=.agg (qU k)) (by simp[results,results95,go_sem,qU,hc,hf]) rfl ⟨rfl,(((((jA.refl w).alloc _).trans hg).setCell (by simp) _).setCell (by simp) _).setCell (by simp) _⟩
@[local go_sem] theorem field_is (a b c:Value) (w:World):(Instr.field 136 (.agg #[a,b,c]) 0).run prog w=.ok a w:=by kernel_rfl
def inlineB (t:Int):Bool:=decide ((kindOf t).1=1)
theorem inline_any (t:Int) (w:World) :
 Calls prog 48 #[.int .i64 t] w fun e w'=>e=.returned (.bool (inlineB t))∧jA w w':=by
 go_enter func48,ntmps48
 go_wp2_with fail
 refine (rP _ _).mono ?_
 rintro e w1 ⟨rfl,hg⟩
 have hi:(((kindOf t).1:Int) == 1)=inlineB t:=by unfold inlineB;rw[Bool.eq_iff_iff];simp;omega
 unfold qU
 go_wp2
 go_ret
 exact⟨by rw[← hi];rfl,hg⟩
end Go.Proofs.YtjnpcddbgfmpcaaGreatDoor.Ft
