/-
  Texts of the proof.
-/
import Derived.Test.YtjnpcddbgfmpcaaGreatDoorBMapsPAI
import Derived.WideMake
import Derived.MapKept
import Derived.Lib.Hide
import Derived.Deep.QuietTactic
import Derived.WalkSmall
import Derived.BigQuiet
set_option linter.unusedVariables false
set_option linter.unusedSimpArgs false
set_option maxHeartbeats 4000000
namespace Go.Proofs.YtjnpcddbgfmpcaaGreatDoor.Ft
open Go.Proofs.Tryz
open Go Go.RowKit
def legalB (t:Int):Bool:=decide ((kindOf t).1≠0)
theorem legal_any (t:Int) (w:World) :
 Calls prog 96 #[.int .i64 t] w fun e w'=>e=.returned (.bool (legalB t))∧jA w w':=by
 go_enter func96,ntmps96
 go_wp2_with fail
 refine (rP _ _).mono ?_
 rintro e w1 ⟨rfl,hg⟩
 have hi:(((kindOf t).1:Int) != 0)=legalB t:=by unfold legalB;rw[Bool.eq_iff_iff];simp
 unfold qU
 have hf:=field_is
 go_wp2
 go_ret
 exact⟨by rw[← hi];rfl,hg⟩
theorem legal_range {t:Int} (h:legalB t=true):0≤t∧t≤36:=by
 unfold legalB kindOf at h
 simp at h
 by_cases h0:t < 0
 ·simp[h0] at h
 ·refine⟨by omega,?_⟩
  by_cases h1:t≤36
  ·exact h1
  ·exfalso
   rw[if_neg h0] at h
   obtain⟨n,rfl⟩:=Int.eq_ofNat_of_zero_le (by omega:0≤t)
   obtain⟨m,rfl⟩:∃m,n=m+37:=⟨n - 37,by omega⟩
   exact h rfl
/-! ### maps with int keys that a call fills -/
section
variable {P:Program}
theorem QJ (w:World) (mty kt et:TypeId) (es:Array MapEntry) (c:Nat) (k:Int) (v:Value) (hm:P.underlying mty=some (.map kt et)) (hk:P.underlying kt=some (.int .i64)) (hf:Instr.findNow (.int .i64) (.int .i64 k) es.toList 0=some none) (r:Nat) (hr:r=w.heap.size) :
 (Instr.mapUpdate mty (.map (some r)) (.int .i64 k) v).run P (w.alloc (.map es c))=.ok () (w.alloc (.map (es.push {key:=.int .i64 k,val:=v,born:=c}) (c+1))):=by
 subst hr
 have hb:(w.alloc (.map es c)).heap[w.heap.size]? = some (.map es c):=heap_alloc_new _ _
 have hc:(Instr.checkKey false 10000 kt (.int .i64 k)).run P (w.alloc (.map es c))=.ok () (w.alloc (.map es c)):=MapKept.run_checkKey (k:=.int .i64 k) hk (by simp[MapKept.IsKey]) false 9999
 have hset:∀o:Obj,(w.alloc (.map es c)).heap.setIfInBounds w.heap.size o=w.heap.push o:=by
  intro o
  show (w.heap.push (.map es c)).setIfInBounds w.heap.size o=w.heap.push o
  apply Array.ext
  ·simp
  ·intro i h1 h2
   rw[Array.getElem_setIfInBounds (by simpa using h2)]
   by_cases hi:w.heap.size=i
   ·subst hi;simp
   ·simp only[if_neg hi]
    have hlt:i < w.heap.size:=by simp at h2;omega
    rw[Array.getElem_push_lt hlt,Array.getElem_push_lt hlt]
 simp[Instr.mapUpdate,run_underlying hm,MapKept.run_getObj_map hb,hc,MapKept.run_findKey hk hf,MapKept.run_setObj_map _ hb,Result.andThen]
 rw[hset]
 rfl
theorem rQ (w:World) (mty kt et:TypeId) (es:Array MapEntry) (c:Nat) (k:Int) (z:Value) (hm:P.underlying mty=some (.map kt et)) (hk:P.underlying kt=some (.int .i64)) (a:Option (Nat × Value)) (hf:Instr.findNow (.int .i64) (.int .i64 k) es.toList 0=some a) (r:Nat) (hb:w.heap[r]? = some (.map es c)) (hz:∀w,(zeroValue et).run P w=.ok z w) (ok:Bool) :
 (Instr.lookup mty (.map (some r)) (.int .i64 k) ok).run P w=.ok (if ok then .tuple #[(a.map (·.2)).getD z,.bool a.isSome] else (a.map (·.2)).getD z) w:=by
 have hc:∀e,(Instr.checkKey e 10000 kt (.int .i64 k)).run P w=.ok () w:=fun e=>MapKept.run_checkKey (k:=.int .i64 k) hk (by simp[MapKept.IsKey]) e 9999
 cases a with
 | none=>simp[Instr.lookup,run_underlying hm,MapKept.run_getObj_map hb,hc,MapKept.run_findKey hk hf,Result.andThen,hz,Sem.run_pure,Sem.run_bind]
 | some q=>obtain⟨i,v⟩:=q;simp[Instr.lookup,run_underlying hm,MapKept.run_getObj_map hb,hc,MapKept.run_findKey hk hf,Result.andThen,Sem.run_pure,Sem.run_bind]
end
def codeF (x:Int):Option Int:=if x=1 then some 0 else if x=2 then some 1 else if x=4 then some 2 else if x=8 then some 3 else none
theorem codeF_cases (x:Int):codeF x=none∨codeF x=some 0∨codeF x=some 1∨codeF x=some 2∨codeF x=some 3:=by
 unfold codeF
 by_cases h1:x=1
 ·simp[h1]
 by_cases h2:x=2
 ·simp[h2]
 by_cases h4:x=4
 ·simp[h4]
 by_cases h8:x=8
 ·simp[h8]
 simp[h1,h2,h4,h8]
def packF (t x:Int):Int × Int:=if legalB t then match codeF x with | some c=>(4*t+c,0) | none=>(0,2) else (0,20)
abbrev M4:Array MapEntry:=#[⟨.int .i64 1,.int .i64 0,0⟩,⟨.int .i64 2,.int .i64 1,1⟩,⟨.int .i64 4,.int .i64 2,2⟩,⟨.int .i64 8,.int .i64 3,3⟩]
theorem nW (w:World):(zeroValue 3).run prog w=.ok (.int .i64 0) w:=by kernel_rfl
theorem look4 (x:Int):Instr.findNow (.int .i64) (.int .i64 x) M4.toList 0=some ((codeF x).map fun c=>(c.toNat,.int .i64 c)):=by
 unfold codeF
 by_cases h1:x=1
 ·subst h1;rfl
 by_cases h2:x=2
 ·subst h2;rfl
 by_cases h4:x=4
 ·subst h4;rfl
 by_cases h8:x=8
 ·subst h8;rfl
 have b1:(x == 1)=false:=by simpa using h1
 have b2:(x == 2)=false:=by simpa using h2
 have b4:(x == 4)=false:=by simpa using h4
 have b8:(x == 8)=false:=by simpa using h8
 simp only[if_neg h1,if_neg h2,if_neg h4,if_neg h8]
 simp[Instr.findNow,Instr.sameNow,b1,b2,b4,b8]
theorem pack_any (t x:Int) (w:World) :
 Calls prog 50 #[.int .i64 t,.int .i64 x] w fun e w'=>e=.returned (.tuple #[.int .u8 (packF t x).1,.int .i64 (packF t x).2])∧jA w w':=by
 have hmm:=fun w=>run_makeMap_plain (P:=prog) w 138
 have f0:∀w:World,(Instr.mapUpdate 138 (.map (some w.heap.size)) (.int .i64 1) (.int .i64 0)).run prog (w.alloc (.map #[] 0))=.ok () (w.alloc (.map #[⟨.int .i64 1,.int .i64 0,0⟩] 1)):=fun w=>QJ (P:=prog) w 138 3 3 #[] 0 1 (.int .i64 0) underlying138 underlying3 (by rfl) w.heap.size rfl
 have f1:∀w:World,(Instr.mapUpdate 138 (.map (some w.heap.size)) (.int .i64 2) (.int .i64 1)).run prog (w.alloc (.map #[⟨.int .i64 1,.int .i64 0,0⟩] 1))=.ok () (w.alloc (.map #[⟨.int .i64 1,.int .i64 0,0⟩,⟨.int .i64 2,.int .i64 1,1⟩] 2)):=fun w=>QJ (P:=prog) w 138 3 3 #[⟨.int .i64 1,.int .i64 0,0⟩] 1 2 (.int .i64 1) underlying138 underlying3 (by rfl) w.heap.size rfl
 have f2:∀w:World,(Instr.mapUpdate 138 (.map (some w.heap.size)) (.int .i64 4) (.int .i64 2)).run prog (w.alloc (.map #[⟨.int .i64 1,.int .i64 0,0⟩,⟨.int .i64 2,.int .i64 1,1⟩] 2))=.ok () (w.alloc (.map #[⟨.int .i64 1,.int .i64 0,0⟩,⟨.int .i64 2,.int .i64 1,1⟩,⟨.int .i64 4,.int .i64 2,2⟩] 3)):=fun w=>QJ (P:=prog) w 138 3 3 #[⟨.int .i64 1,.int .i64 0,0⟩,⟨.int .i64 2,.int .i64 1,1⟩] 2 4 (.int .i64 2) underlying138 underlying3 (by rfl) w.heap.size rfl
 have f3:∀w:World,(Instr.mapUpdate 138 (.map (some w.heap.size)) (.int .i64 8) (.int .i64 3)).run prog (w.alloc (.map #[⟨.int .i64 1,.int .i64 0,0⟩,⟨.int .i64 2,.int .i64 1,1⟩,⟨.int .i64 4,.int .i64 2,2⟩] 3))=.ok () (w.alloc (.map #[⟨.int .i64 1,.int .i64 0,0⟩,⟨.int .i64 2,.int .i64 1,1⟩,⟨.int .i64 4,.int .i64 2,2⟩,⟨.int .i64 8,.int .i64 3,3⟩] 4)):=fun w=>QJ (P:=prog) w 138 3 3 #[⟨.int .i64 1,.int .i64 0,0⟩,⟨.int .i64 2,.int .i64 1,1⟩,⟨.int .i64 4,.int .i64 2,2⟩] 3 8 (.int .i64 3) underlying138 underlying3 (by rfl) w.heap.size rfl
 have hl:=fun (w:World)=>rQ (P:=prog) (w.alloc (.map M4 4)) 138 3 3 M4 4 x (.int .i64 0) underlying138 underlying3 _ (look4 x) w.heap.size (heap_alloc_new _ _) nW true
 by_cases h:legalB t=true
 ·obtain⟨t0,t1⟩:=legal_range h
  have HP:Hid (packF t x=match codeF x with | some c=>(4*t+c,0) | none=>(0,2)):=by show _=_;rw[packF,if_pos h]
  have hcc:=codeF_cases x
  have HL:=zh h
  go_enter func50,ntmps50
  go_wp2_with fail
  refine (legal_any _ _).mono ?_
  rw[h]
  clear h
  rintro e w1 ⟨rfl,hg⟩
  have HG:=zh (jA.alloc hg (.map M4 4))
  clear hg
  generalize codeF x=o at *
  rcases hcc with rfl|rfl|rfl|rfl|rfl
  all_goals
   simp only[Option.map_none,Option.map_some,Option.getD_none,Option.getD_some,Option.isSome_none,Option.isSome_some,if_true] at hl
   go_wp2
   go_ret2
   refine⟨?_,HG.out⟩
   first | (rw[HP.out];done) | (rw[HP.out];rfl) | (rw[HP.out];simp;done) | (rw[HP.out];simp;omega)
 ·have HP:Hid (packF t x=(0,20)):=by show _=_;rw[packF,if_neg h]
  have h':legalB t=false:=by simpa using h
  go_enter func50,ntmps50
  go_wp2_with fail
  refine (legal_any _ _).mono ?_
  rw[h']
  clear h h'
  rintro e w1 ⟨rfl,hg⟩
  go_wp2
  go_ret2
  exact⟨by rw[HP.out];rfl,hg⟩
def unpackF (c:Nat):Int × Int × Int:=if legalB ((c / 4:Nat):Int) then (((c / 4:Nat):Int),2 ^ (c % 4),0) else (0,0,20)
theorem unpack_any (c:Nat) (w:World) (hc:c < 256) :
 Calls prog 56 #[.int .u8 c] w fun e w'=>e=.returned (.tuple #[.int .i64 (unpackF c).1,.int .i64 (unpackF c).2.1,.int .i64 (unpackF c).2.2])∧jA w w':=by
 go_enter func56,ntmps56
 go_wp2_with fail
 refine (legal_any _ _).mono ?_
 by_cases h:legalB ((c:Int) / 4)=true
 ·have h2:legalB ((c / 4:Nat):Int)=true:=by rw[Int.natCast_ediv];exact h
  have HP:Hid (unpackF c=(((c / 4:Nat):Int),2 ^ (c % 4),0)):=by show _=_;rw[unpackF,if_pos h2]
  rw[h]
  clear h h2
  rintro e w1 ⟨rfl,hg⟩
  have hm:c % 4=0∨c % 4=1∨c % 4=2∨c % 4=3:=by omega
  have HM:=zh hm
  clear hm
  have hw:wrap64 ((2:Int) ^ (c % 4))=2 ^ (c % 4):=by
   rcases HM.out with h|h|h|h<;>rw[h]<;>(unfold wrap64;decide)
  have HW:=zh hw
  clear hw
  go_wp2
  go_ret3
  refine⟨?_,hg⟩
  rw[HP.out]
  show Ending.returned (.tuple #[.int .i64 ((c:Int) / 4),.int .i64 (wrap64 ((2:Int) ^ (c % 4))),.int .i64 0])=_
  rw[HW.out,Int.natCast_ediv]
  rfl
 ·have h2:¬legalB ((c / 4:Nat):Int)=true:=by rw[Int.natCast_ediv];exact h
  have HP:Hid (unpackF c=(0,0,20)):=by show _=_;rw[unpackF,if_neg h2]
  rw[show legalB ((c:Int) / 4)=false by simpa using h]
  clear h h2
  rintro e w1 ⟨rfl,hg⟩
  go_wp2
  go_ret3
  exact⟨by rw[HP.out];rfl,hg⟩
def elemF (t:Int):Int × Int × Bool:=((kindOf t).2.1,(kindOf t).2.2,decide ((kindOf t).1=3))
end Go.Proofs.YtjnpcddbgfmpcaaGreatDoor.Ft
