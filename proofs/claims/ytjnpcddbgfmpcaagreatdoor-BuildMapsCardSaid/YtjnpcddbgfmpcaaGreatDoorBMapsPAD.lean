/-
  Texts of the proof.
-/
import Derived.Test.YtjnpcddbgfmpcaaGreatDoorRows
import Derived.Test.YtjnpcddbgfmpcaaGreatDoorBMapsPAC
import Derived.ProofKit
import Derived.OpenShut
import Derived.ShutString
import Derived.ChangeOld
import Derived.Lib.SmallJoins
import Derived.Lib.UnsafeStr
import Derived.Lib.Hide
import Derived.Handy
import Derived.Laws.OwnMore
import Derived.Deep.QuietTactic
import Derived.BigQuiet
set_option linter.unusedVariables false
set_option linter.unusedSimpArgs false
namespace Go.Proofs.YtjnpcddbgfmpcaaGreatDoor
open Go.Proofs.Tryz
open Go Go.ChangeShapes Go.WideShapes Go.ChangeAt Go.RowKit Go.Joins
open Go.ChangeMaps (open_string shut_string)
theorem jA.drewN {a w:World} (h:jA a w) (n:Nat):jA a (w.drewN n):=by
 have h2:Below a.heap.size a w:=h
 exact⟨h2.os,h2.tape,h2.output,h2.size,h2.block⟩
structure Moved (S:Nat→Prop) (w w':World):Prop where
 os:w'.os=w.os
 tape:w'.tape=w.tape
 output:w'.output=w.output
 size:w.heap.size≤w'.heap.size
 block:∀k,k < w.heap.size→¬S k→w'.heap[k]? = w.heap[k]?
namespace Moved
variable {S T:Nat→Prop} {a b c w w':World}
theorem refl (S:Nat→Prop) (w:World):Moved S w w:=⟨rfl,rfl,rfl,Nat.le_refl _,fun _ _ _=>rfl⟩
theorem trans (h:Moved S a b) (k:Moved T b c) (hT:∀j,j < a.heap.size→T j→S j):Moved S a c:=
 ⟨k.os.trans h.os,k.tape.trans h.tape,k.output.trans h.output,Nat.le_trans h.size k.size,
  fun j hj hS=>(k.block j (Nat.lt_of_lt_of_le hj h.size) (fun ht=>hS (hT j hj ht))).trans (h.block j hj hS)⟩
theorem trans' (h:Moved S a b) (k:Moved S b c):Moved S a c:=h.trans k (fun _ _ h=>h)
theorem mono (h:Moved S a b) (hS:∀j,j < a.heap.size→S j→T j):Moved T a b:=⟨h.os,h.tape,h.output,h.size,fun j hj hT=>h.block j hj (fun hs=>hT (hS j hj hs))⟩
theorem of_grew (h:jA a b):Moved S a b:=⟨h.os,h.tape,h.output,h.size,fun k hk _=>h.block k hk⟩
theorem grew (h:Moved S a b) (k:jA b c):Moved S a c:=h.trans (of_grew (S:=fun _=>False) k) (fun _ _ h=>h.elim)
theorem of_grown {row:Option Nat} (h:w.grownBy w' row):Moved (fun k=>some k=row) w w':=⟨h.os,h.tape,h.output,h.size,h.block⟩
theorem alloc (h:Moved S a w) (o:Obj):Moved S a (w.alloc o):=h.grew ((jA.refl w).alloc o)
theorem setCell (h:Moved S a w) {p:Addr} (hp:p.block < a.heap.size→S p.block) (u:Value):Moved S a (w.setCell p u):=
 h.trans (T:=fun k=>k=p.block) ⟨rfl,rfl,rfl,by simp[World.setCell],fun k _ hk=>Below.heap_setCell _ _ _ _ hk⟩ (fun j hj e=>e ▸ hp (e ▸ hj))
theorem drew (h:Moved S a w):Moved S a w.drew:=⟨h.os,h.tape,h.output,h.size,h.block⟩
theorem below {B:Nat} (h:Moved S a b) (hB:B≤a.heap.size) (hS:∀k,S k→B≤k):Below B a b:=
 ⟨h.os,h.tape,h.output,h.size,fun k hk=>h.block k (by omega) (fun hs=>by have:=hS k hs;omega)⟩
theorem heap (h:Moved S w w') {k:Nat} {o:Obj} (hk:w.heap[k]? = some o) (hS:¬S k):w'.heap[k]? = some o:=
 (h.block k (Array.getElem?_eq_some_iff.1 hk).1 hS).trans hk
theorem cell (h:Moved S w w') {p:Addr} {v:Value} (hc:w.cell? p=some v) (hS:¬S p.block):w'.cell? p=some v:=
 (World.cell?_of_block (h.block p.block (World.block_lt_of_cell? w p hc) hS)).trans hc
theorem owns (h:Moved S w w') {B:Nat} {e:TypeId} {size:Nat} {v:Value} {n:Nat} {xs:List Value} (ho:w.ownsRow B e size v n xs) (hS:∀k,v.ownBlock=some k→¬S k):w'.ownsRow B e size v n xs:=by
 obtain⟨h1,h2⟩:=ho
 refine⟨h1,?_⟩
 rcases h2 with h2|⟨g,cap,cur,rfl,hb,hg,r⟩
 ·exact .inl h2
 ·exact .inr ⟨g,cap,cur,rfl,hb,h.heap hg (hS g rfl),r⟩
end Moved
def qH (p:Nat) (o:Option Nat) (k:Nat):Prop:=k=p∨some k=o
def zO (w:World) (o o':Option Nat):Prop:=∀k,o'=some k→o=some k∨w.heap.size≤k
theorem zO.refl (w:World) (o:Option Nat):zO w o o:=fun _ h=>.inl h
theorem zO.fresh {w:World} {o:Option Nat} {j:Nat} (h:w.heap.size≤j):zO w o (some j):=fun k e=>by cases e;exact .inr h
theorem zO.earlier {w w':World} {o o':Option Nat} (h:zO w' o o') (hs:w.heap.size≤w'.heap.size):zO w o o':=fun k e=>(h k e).imp id (fun h=>Nat.le_trans hs h)
theorem zO.trans {w w':World} {o o1 o2:Option Nat} (h:zO w o o1) (k:zO w' o1 o2) (hs:w.heap.size≤w'.heap.size):zO w o o2:=fun j e=>by
 rcases k j e with h1|h1
 ·exact h j h1
 ·exact .inr (by omega)
theorem Moved.own {p:Nat} {o o':Option Nat} {a b c:World} (h:Moved (qH p o) a b) (hn:zO a o o') (k:Moved (qH p o') b c):Moved (qH p o) a c:=
 h.trans k fun j hj hs=>by
  rcases hs with rfl|hs
  ·exact .inl rfl
  ·rcases hn j hs.symm with h1|h1
   ·exact .inr h1.symm
   ·omega
def kU (B:Nat) (w:World) (p:Nat) (o:Option Nat) (l:List UInt8) (most e:Int):Prop:=
 B≤p∧∃v,w.heap[p]? = some (.cells #[.bool true,v,.int .i64 most,.int .i64 e] 107 (0,0))∧w.ownsRow B 5 1 v l.length (Lib.byteCells l)∧v.ownBlock=o∧o≠some p
section
variable {B:Nat} {w w':World} {p:Nat} {o:Option Nat} {l:List UInt8} {most e:Int}
theorem kU.kept {S:Nat→Prop} (h:kU B w p o l most e) (hm:Moved S w w') (hp:¬S p) (ho:∀k,o=some k→¬S k):kU B w' p o l most e:=by
 obtain⟨hB,v,h1,h2,h3,h4⟩:=h
 exact⟨hB,v,hm.heap h1 hp,hm.owns h2 (fun k hk=>ho k (h3 ▸ hk)),h3,h4⟩
theorem kU.grew (h:kU B w p o l most e) (hg:jA w w'):kU B w' p o l most e:=h.kept (Moved.of_grew (S:=fun _=>False) hg) (fun h=>h) (fun _ _ h=>h)
theorem ZJ {t:TypeId} {v:Value} (h:w.ownsRow B t 1 v l.length (Lib.byteCells l)):∃a c,v=.slice a l.length c∧l.length≤c∧(a=none→c=0):=by
 rcases h.2 with ⟨rfl,hn⟩|⟨g,cap,cur,rfl,_,_,hn,_⟩
 ·exact⟨none,0,by rw[hn],by omega,fun _=>rfl⟩
 ·exact⟨_,cap,rfl,hn,fun h=>by cases h⟩
theorem y5 {a b c d:Value} {t:TypeId} (h:w.heap[p]? = some (.cells #[a,b,c,d] t (0,0))) :
 w.cell? ⟨p,0,none⟩=some a∧w.cell? ⟨p,1,none⟩=some b∧w.cell? ⟨p,2,none⟩=some c∧w.cell? ⟨p,3,none⟩=some d:=
 ⟨by rw[cell_of_row w p 0 _ _ _ h];rfl,by rw[cell_of_row w p 1 _ _ _ h];rfl,by rw[cell_of_row w p 2 _ _ _ h];rfl,by rw[cell_of_row w p 3 _ _ _ h];rfl⟩
theorem jE {cs:Array Value} {t:TypeId} (h:w.heap[p]? = some (.cells cs t (0,0))) (k:Nat):w.frozen? ⟨p,k,none⟩=false:=by
 unfold World.frozen?
 simp only[h]
 simp
end
abbrev jF (p:Nat):Value:=.pointer (some ⟨p,0,none⟩)
theorem gN {B:Nat} {w:World} {p:Nat} {o:Option Nat} {l:List UInt8} {most e:Int} (h:kU B w p o l most e) :
 Calls prog 91 #[jF p] w fun r w'=>r=.returned (.bool false)∧w'=w:=by
 obtain⟨_,v,h1,_⟩:=h
 obtain⟨c0,c1,c2,c3⟩:=y5 h1
 clear h1
 go_enter func91,ntmps91
 go_wp2
 go_ret
 exact⟨rfl,rfl⟩
theorem qB {B:Nat} {w:World} {p:Nat} {o:Option Nat} {l:List UInt8} {most e:Int} (h:kU B w p o l most e) :
 Calls prog 68 #[jF p] w fun r w'=>r=.returned (.int .i64 e)∧w'=w:=by
 have HB:=zh h
 obtain⟨_,v,h1,_⟩:=h
 obtain⟨c0,c1,c2,c3⟩:=y5 h1
 clear h1
 go_enter func68,ntmps68
 go_wp2_with fail
 refine (gN HB.out).mono ?_
 rintro r w' ⟨rfl,rfl⟩
 go_wp2
 go_ret
 exact⟨rfl,rfl⟩
theorem yY {B:Nat} {w:World} {p:Nat} {o:Option Nat} {l:List UInt8} {most e:Int} (h:kU B w p o l most e) :
 Calls prog 46 #[jF p] w fun r w'=>r=.returned (.int .i64 l.length)∧w'=w:=by
 have HB:=zh h
 obtain⟨_,v,h1,h2,_⟩:=h
 obtain⟨c0,c1,c2,c3⟩:=y5 h1
 obtain⟨a,c,rfl,_,_⟩:=ZJ h2
 clear h1 h2
 go_enter func46,ntmps46
 go_wp2_with fail
 refine (gN HB.out).mono ?_
 rintro r w' ⟨rfl,rfl⟩
 go_wp2
 go_ret
 exact⟨rfl,rfl⟩
def kL (e x:Int):Int:=if e=0 then x else e
theorem dH {w:World} {p:Nat} {a b c d:Value} {t:TypeId} (h:w.heap[p]? = some (.cells #[a,b,c,d] t (0,0))) (v:Value) :
 (w.setCell ⟨p,3,none⟩ v).heap[p]? = some (.cells #[a,b,c,v] t (0,0))∧(w.setCell ⟨p,1,none⟩ v).heap[p]? = some (.cells #[a,v,c,d] t (0,0)):=
 ⟨by have:=heap_setCell_same w p 3 _ _ v h;simpa using this,by have:=heap_setCell_same w p 1 _ _ v h;simpa using this⟩
theorem oL (w:World) (p i:Nat) (o:Option Nat) (v:Value):Moved (qH p o) w (w.setCell ⟨p,i,none⟩ v):=(Moved.refl _ w).setCell (fun _=>.inl rfl) v
theorem gO {B:Nat} {w:World} {p:Nat} {o:Option Nat} {l:List UInt8} {most e:Int} (x:Int) (h:kU B w p o l most e) :
 Calls prog 99 #[jF p,.int .i64 x] w fun r w'=>r=.returned (.tuple #[])∧kU B w' p o l most (kL e x)∧Moved (qH p o) w w':=by
 have HB:=zh h
 obtain⟨hB,v,h1,h2,h3,h4⟩:=h
 obtain⟨c0,c1,c2,c3⟩:=y5 h1
 have H1:=zh h1
 have H2:=zh h2
 have H3:=zh h3
 have f3:=jE h1 3
 clear h1 h2 h3
 have hnew:Hid (kU B (w.setCell ⟨p,3,none⟩ (.int .i64 x)) p o l most x∧Moved (qH p o) w (w.setCell ⟨p,3,none⟩ (.int .i64 x))):=by
  have hm:Moved (fun k=>k=p) w (w.setCell ⟨p,3,none⟩ (.int .i64 x)):=Moved.setCell (p:=⟨p,3,none⟩) (Moved.refl (fun k=>k=p) w) (fun _=>rfl) _
  exact⟨⟨hB,v,(dH H1.out _).1,hm.owns H2.out (fun k hk he=>h4 (by rw[← H3.out,hk,he])),H3.out,h4⟩,oL w p 3 o _⟩
 go_enter func99,ntmps99
 go_wp2_with fail
 refine (qB HB.out).mono ?_
 rintro r w' ⟨rfl,rfl⟩
 by_cases he:e=0
 ·subst he
  go_wp2
  go_end0
  exact⟨rfl,hnew.out.1,hnew.out.2⟩
 ·go_wp2
  go_end0
  refine⟨rfl,?_,Moved.refl _ _⟩
  rw[kL,if_neg he]
  exact HB.out
end Go.Proofs.YtjnpcddbgfmpcaaGreatDoor
