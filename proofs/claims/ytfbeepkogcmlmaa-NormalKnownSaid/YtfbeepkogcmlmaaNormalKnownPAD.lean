/-
  Texts of the proof.
-/
import Derived.Test.YtfbeepkogcmlmaaRows
import Derived.Test.YtfbeepkogcmlmaaNormalKnownPAC
import Derived.ProofKit
import Derived.OpenShut
import Derived.ShutString
import Derived.ChangeOld
import Derived.Lib.SmallJoins
import Derived.Lib.UnsafeStr
import Derived.Lib.Hide
import Derived.Handy
import Derived.Laws.OwnMore
import Derived.Deep.QuietTactic
import Derived.BigQuiet
set_option linter.unusedVariables false
set_option linter.unusedSimpArgs false
namespace Go.Proofs.Ytfbeepkogcmlmaa
open Go Go.ChangeShapes Go.WideShapes Go.ChangeAt Go.RowKit Go.Joins
open Go.ChangeMaps (open_string shut_string)
theorem jC.drewN {a w:World} (h:jC a w) (n:Nat):jC a (w.drewN n):=by
 have h2:Below a.heap.size a w:=h
 exact⟨h2.os,h2.tape,h2.output,h2.size,h2.block⟩
structure Moved (S:Nat→Prop) (w w':World):Prop where
 os:w'.os=w.os
 tape:w'.tape=w.tape
 output:w'.output=w.output
 size:w.heap.size≤w'.heap.size
 block:∀k,k < w.heap.size→¬S k→w'.heap[k]? = w.heap[k]?
namespace Moved
variable {S T:Nat→Prop} {a b c w w':World}
theorem refl (S:Nat→Prop) (w:World):Moved S w w:=⟨rfl,rfl,rfl,Nat.le_refl _,fun _ _ _=>rfl⟩
theorem trans (h:Moved S a b) (k:Moved T b c) (hT:∀j,j < a.heap.size→T j→S j):Moved S a c:=
 ⟨k.os.trans h.os,k.tape.trans h.tape,k.output.trans h.output,Nat.le_trans h.size k.size,
  fun j hj hS=>(k.block j (Nat.lt_of_lt_of_le hj h.size) (fun ht=>hS (hT j hj ht))).trans (h.block j hj hS)⟩
theorem trans' (h:Moved S a b) (k:Moved S b c):Moved S a c:=h.trans k (fun _ _ h=>h)
theorem mono (h:Moved S a b) (hS:∀j,j < a.heap.size→S j→T j):Moved T a b:=⟨h.os,h.tape,h.output,h.size,fun j hj hT=>h.block j hj (fun hs=>hT (hS j hj hs))⟩
theorem of_grew (h:jC a b):Moved S a b:=⟨h.os,h.tape,h.output,h.size,fun k hk _=>h.block k hk⟩
theorem grew (h:Moved S a b) (k:jC b c):Moved S a c:=h.trans (of_grew (S:=fun _=>False) k) (fun _ _ h=>h.elim)
theorem of_grown {row:Option Nat} (h:w.grownBy w' row):Moved (fun k=>some k=row) w w':=⟨h.os,h.tape,h.output,h.size,h.block⟩
theorem alloc (h:Moved S a w) (o:Obj):Moved S a (w.alloc o):=h.grew ((jC.refl w).alloc o)
theorem setCell (h:Moved S a w) {p:Addr} (hp:p.block < a.heap.size→S p.block) (u:Value):Moved S a (w.setCell p u):=
 h.trans (T:=fun k=>k=p.block) ⟨rfl,rfl,rfl,by simp[World.setCell],fun k _ hk=>Below.heap_setCell _ _ _ _ hk⟩ (fun j hj e=>e ▸ hp (e ▸ hj))
theorem drew (h:Moved S a w):Moved S a w.drew:=⟨h.os,h.tape,h.output,h.size,h.block⟩
theorem below {B:Nat} (h:Moved S a b) (hB:B≤a.heap.size) (hS:∀k,S k→B≤k):Below B a b:=
 ⟨h.os,h.tape,h.output,h.size,fun k hk=>h.block k (by omega) (fun hs=>by have:=hS k hs;omega)⟩
theorem heap (h:Moved S w w') {k:Nat} {o:Obj} (hk:w.heap[k]? = some o) (hS:¬S k):w'.heap[k]? = some o:=
 (h.block k (Array.getElem?_eq_some_iff.1 hk).1 hS).trans hk
theorem cell (h:Moved S w w') {p:Addr} {v:Value} (hc:w.cell? p=some v) (hS:¬S p.block):w'.cell? p=some v:=
 (World.cell?_of_block (h.block p.block (World.block_lt_of_cell? w p hc) hS)).trans hc
theorem owns (h:Moved S w w') {B:Nat} {e:TypeId} {size:Nat} {v:Value} {n:Nat} {xs:List Value} (ho:w.ownsRow B e size v n xs) (hS:∀k,v.ownBlock=some k→¬S k):w'.ownsRow B e size v n xs:=by
 obtain⟨h1,h2⟩:=ho
 refine⟨h1,?_⟩
 rcases h2 with h2|⟨g,cap,cur,rfl,hb,hg,r⟩
 ·exact .inl h2
 ·exact .inr ⟨g,cap,cur,rfl,hb,h.heap hg (hS g rfl),r⟩
end Moved
def vW (w:World) (o o':Option Nat):Prop:=∀k,o'=some k→o=some k∨w.heap.size≤k
theorem vW.refl (w:World) (o:Option Nat):vW w o o:=fun _ h=>.inl h
theorem vW.fresh {w:World} {o:Option Nat} {j:Nat} (h:w.heap.size≤j):vW w o (some j):=fun k e=>by cases e;exact .inr h
section
variable {B:Nat} {w w':World} {p:Nat} {o:Option Nat} {l:List UInt8} {most e:Int}
theorem jB {cs:Array Value} {t:TypeId} (h:w.heap[p]? = some (.cells cs t (0,0))) (k:Nat):w.frozen? ⟨p,k,none⟩=false:=by
 unfold World.frozen?
 simp only[h]
 simp
end
abbrev bptr (p:Nat):Value:=.pointer (some ⟨p,0,none⟩)
end Go.Proofs.Ytfbeepkogcmlmaa
