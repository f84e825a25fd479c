/-
  Texts of the proof.
-/
import Derived.Test.YtjnpcddbgfmpcaaGreatDoorBMapsPBB
import Derived.Test.YtjnpcddbgfmpcaaGreatDoorBMapsPBO
import Derived.Test.YtjnpcddbgfmpcaaGreatDoorBMapsPAY
import Derived.Test.YtjnpcddbgfmpcaaGreatDoorBMapsPAU
set_option linter.unusedVariables false
set_option linter.unusedSimpArgs false
set_option maxHeartbeats 32000000
set_option maxRecDepth 100000
namespace Go.Proofs.YtjnpcddbgfmpcaaGreatDoor
open Go.Proofs.Tryz
open Go Go.ChangeShapes Go.WideShapes Go.ChangeAt Go.RowKit Go.Joins Go.Deep
open Go.Proofs.YtjnpcddbgfmpcaaGreatDoor.Ft (V3 vV okV ValsAt inlineB legalB packF codeF typedF allF oneF)
structure BS where
 s:St
 e:Int
 stk:List V3
 keys:zR
 texts:zR
 lists:zR
 names:List (Int × ByteArray)
 vals:List V3
def bT (n:Nat):Int:=if n+1≤65536 then 0 else 5
def bU (l:List V3) (v:V3):List V3:=if l.length+1≤65536 then l++[v] else l
def onF (flags flag:Int):Bool:=bits .and .i64 flags flag != 0
namespace BS
def fail (e:Int) (x:BS):BS:={x with e:=kL x.e e}
def push (v:V3) (x:BS):BS:=
 if kL x.e x.s.2=0 then (if x.stk.length+1≤65536 then {x with e:=0,stk:=x.stk++[v]} else {x with e:=5}) else {x with e:=kL x.e x.s.2}
end BS
def zU (b:Bool):V3:=(26,1,if b then 1 else 0)
def ZX (n:Int):Int:=if -128≤n∧n≤127 then 1 else if -32768≤n∧n≤32767 then 2 else if -2147483648≤n∧n≤2147483647 then 4 else 8
def y4 (n:Int):V3:=(1,ZX n,n % 18446744073709551616)
def yR (u:Int):V3:=(2,Ft.widthOf u.toNat,u)
namespace BS
def inline (v:V3) (x:BS):BS:=if x.e=0 then x.push v else x
def apart (most t:Int) (v:V3) (x:BS):BS:=
 if x.e=0 then
  let s1:=jG most v.2.1 x.s
  ({x with s:=jW most v.2.1 (kY v.2.2 v.2.1) s1}:BS).push (t,v.2.1,(s1.1.length:Int))
 else x
def put (most:Int) (share:Bool) (k:ByteArray) (x:BS):V3 × BS:=
 let x1:=x.fail (yI k)
 if x1.e≠0 then ((0,0,0),x1) else
 let g:=yB x.keys k
 if g.2 && share then ((4,1,g.1),x1) else
 let at_:Int:=x.s.1.length
 let s2:=kA most (jP [k,⟨#[0]⟩]) x.s
 ((4,1,at_),{x1 with s:=s2,keys:=zL k at_ x.keys,names:=x.names++[(at_,k)],e:=s2.2})
def key (most:Int) (share:Bool) (k:ByteArray) (x:BS):BS:=if x.e=0 then (x.put most share k).2.push (x.put most share k).1 else x
def text (most t:Int) (k behind:ByteArray) (x:BS):BS:=
 let w:=Ft.widthOf k.size
 let s1:=jW most w k.size (jG most w x.s)
 let at_:Int:=s1.1.length
 ({x with s:=kA most (jP [k,behind]) s1,texts:=if t=5 then zL k at_ x.texts else x.texts}:BS).push (t,w,at_)
def str (most:Int) (share:Bool) (k:ByteArray) (x:BS):BS:=
 if x.e=0 then
  let g:=yB x.texts k
  if g.2 && share then x.push (5,Ft.widthOf k.size,g.1) else x.text most 5 k ⟨#[0]⟩
 else x
def blob (most:Int) (k:ByteArray) (x:BS):BS:=if x.e=0 then x.text most 25 k ByteArray.empty else x
end BS
def kZ (most elem many:Int) (l:List V3) (s:St):(V3 × Int) × St:=
 if elem = -1 then zE most jY true true 10 0 l s else zE most (j4 elem) (decide (many=0)) false (typedF elem many).1 0 l s
namespace BS
def vector (most elem many:Int) (l:List V3) (x:BS):BS:=
 if x.e=0 then
  let q:=kZ most elem many l x.s
  (({x with s:=q.2}:BS).fail q.1.2).push q.1.1
 else x
def putAll (most:Int) (share:Bool):List ByteArray→BS→List V3 × BS
 | [],x=>([],x)
 | k::r,x=>((x.put most share k).1::(putAll most share r (x.put most share k).2).1,(putAll most share r (x.put most share k).2).2)
def keyVec (most:Int) (share:Bool) (l:List ByteArray) (x:BS):BS:=
 if x.e=0 then (x.putAll most share l).2.vector most 4 0 (x.putAll most share l).1 else x
def fixed (most elem:Int) (l:List V3) (x:BS):BS:=
 if x.e=0 then (if l.length < 2∨4 < l.length then x.fail 2 else x.vector most elem l.length l) else x
def endVec (most start:Int) (x:BS):BS:=
 if x.e=0 then
  (if 0≤start∧start≤x.stk.length then ({x with stk:=x.stk.take start.toNat}:BS).vector most (-1) 0 (x.stk.drop start.toNat) else x.fail 2)
 else x
end BS
def zM (names:List (Int × ByteArray)) (n:Int):ByteArray:=match names.find? (fun q=>q.1=n) with | some q=>q.2 | none=>ByteArray.empty
def kE (names:List (Int × ByteArray)):List V3→List (ByteArray × V3 × V3)
 | k::v::r=>(zM names k.2.2,k,v)::kE names r
 | _=>[]
def yC:List V3→Bool
 | k::_::r=>decide (k.1=4) && yC r
 | []=>true
 | _=>false
def kF (l:List ByteArray):ByteArray:=l.foldl (fun a k=>a++(k++⟨#[0]⟩)) ByteArray.empty
namespace BS
def table (most:Int) (share:Bool) (list:ByteArray) (keys vals:List V3) (x:BS):BS:=
 let g:=yB x.lists list
 let x1:BS:=if g.2 && share then x else
  let q:=kZ most 4 0 keys x.s
  ({x with s:=q.2,e:=kL x.e q.1.2,lists:=zL list x.vals.length x.lists,vals:=x.vals++[q.1.1]}:BS)
 let i:Int:=if g.2 && share then g.1 else x.vals.length
 if x1.e=0 then
  let q:=y3 most (x1.vals.getD i.toNat (0,0,0)) vals x1.s
  (({x1 with s:=q.2}:BS).fail q.1.2).push q.1.1
 else x1
def endMap (most:Int) (share:Bool) (start:Int) (x:BS):BS:=
 if x.e=0 then
  (if 0≤start∧start≤x.stk.length then
   let l:=x.stk.drop start.toNat
   if yC l then
    let es:=kE x.names l
    if (es.map (·.1)).Nodup then
     ({x with stk:=x.stk.take start.toNat}:BS).table most share (kF ((kW es).map (·.1))) ((kW es).map (·.2.1)) ((kW es).map (·.2.2))
    else x.fail 71
   else x.fail 140
  else x.fail 2)
 else x
def finish (most:Int) (x:BS):(List UInt8 × Int) × BS:=
 let x0:=if x.stk.length≠1 then x.fail 140 else x
 if x0.e≠0 then (([],x0.e),x0) else
 let v:=x.stk.getD 0 (0,0,0)
 let w:=oneF v.1 v.2.1 v.2.2 x.s.1.length 0
 let s1:=jG most w x.s
 let own:=if inlineB v.1 then w else v.2.1
 let n:=if inlineB v.1 then kY v.2.2 w else IntKind.u64.wrap ((s1.1.length:Int) - v.2.2)
 let s2:=jW most w n s1
 let s3:=kA most [UInt8.ofNat (packF v.1 own).1.toNat,UInt8.ofNat w.toNat] s2
 ((QQ s3,s3.2),({x0 with s:=s3}:BS).fail s3.2 |>.fail 140)
end BS
structure BS.Good (x:BS):Prop where
 s0:x.e=0→x.s.2=0
 nm:x.e=0→∀z∈x.names,z.1 < x.s.1.length
 ks:x.e=0→x.keys.length≤x.s.1.length
 ts:x.e=0→x.texts.length≤x.s.1.length
 ls:x.e=0→x.lists.length≤x.s.1.length
 vs:x.e=0→x.vals.length≤x.s.1.length
 ix:x.e=0→∀z∈x.lists,0≤z.2∧z.2 < x.vals.length
 nz:x.e=0→∀z∈x.names,z.2.size≤x.s.1.length
theorem sC {α:Type} {l:List α} {i:Nat} {x z:α} (h:z∈KI l i x):z∈l∨z=x:=by
 unfold KI at h
 rcases List.mem_append.1 h with h|h
 ·exact .inl (List.mem_of_mem_take h)
 ·rcases List.mem_cons.1 h with h|h
  ·exact .inr h
  ·exact .inl (List.mem_of_mem_drop h)
theorem QZ {k:ByteArray} {a:Int} {l:zR} {z:ByteArray × Int} (h:z∈zL k a l):z∈l∨(z=(k,a)∧0≤a∧a≤9007199254740991):=by
 unfold zL at h
 split at h
 ·exact .inl h
 ·rename_i hn
  split at h
  ·exact .inl h
  ·rcases sC h with h|h
   ·exact .inl h
   ·exact .inr ⟨h,by omega,by omega⟩
theorem fU {k:ByteArray} {a:Int} {l:zR} (h:∀z∈l,0≤z.2∧z.2≤9007199254740991):∀z∈zL k a l,0≤z.2∧z.2≤9007199254740991:=fun z hz=>by
 rcases QZ hz with h1|⟨rfl,h2,h3⟩
 ·exact h z h1
 ·exact⟨h2,h3⟩
theorem aP {k:ByteArray} {l:zR} (h:∀z∈l,0≤z.2∧z.2≤9007199254740991):0≤(yB l k).1∧(yB l k).1≤9007199254740991:=by
 unfold yB
 split
 ·rename_i hh
  have hlt:=aO hh
  have hg:(KH l).getD (yJ l k) 0=(l[yJ l k]).2:=by simp[KH,List.getD_eq_getElem?_getD,hlt]
  dsimp only
  rw[hg]
  exact h _ (List.getElem_mem hlt)
 ·simp
end Go.Proofs.YtjnpcddbgfmpcaaGreatDoor
namespace Go.Proofs.YtjnpcddbgfmpcaaGreatDoor
open Go.Proofs.Tryz
open Go Go.ChangeShapes Go.WideShapes Go.ChangeAt Go.RowKit Go.Joins Go.Deep
open Go.Proofs.YtjnpcddbgfmpcaaGreatDoor.Ft (V3 vV okV ValsAt inlineB legalB packF codeF typedF allF oneF)
namespace BS.Good
theorem stuck {x:BS} (h:x.e≠0):x.Good:=⟨fun e=>absurd e h,fun e=>absurd e h,fun e=>absurd e h,fun e=>absurd e h,fun e=>absurd e h,fun e=>absurd e h,fun e=>absurd e h,fun e=>absurd e h⟩
theorem fail {x:BS} {e:Int} (h:x.Good):(x.fail e).Good:=by
 by_cases hx:x.e=0
 ·have he:x.fail e={x with e:=e}:=by unfold BS.fail kL;rw[if_pos hx]
  rw[he]
  exact⟨fun _=>h.s0 hx,fun _=>h.nm hx,fun _=>h.ks hx,fun _=>h.ts hx,fun _=>h.ls hx,fun _=>h.vs hx,fun _=>h.ix hx,fun _=>h.nz hx⟩
 ·have he:x.fail e=x:=by unfold BS.fail kL;rw[if_neg hx]
  rw[he];exact h
theorem push {x:BS} {v:V3} (h:x.Good):(x.push v).Good:=by
 unfold BS.push
 by_cases hf:kL x.e x.s.2=0
 ·rw[if_pos hf]
  have hx:x.e=0:=by
   unfold kL at hf
   split at hf
   ·assumption
   ·exact hf
  split
  ·exact⟨fun _=>h.s0 hx,fun _=>h.nm hx,fun _=>h.ks hx,fun _=>h.ts hx,fun _=>h.ls hx,fun _=>h.vs hx,fun _=>h.ix hx,fun _=>h.nz hx⟩
  ·exact stuck (by show (5:Int)≠0;decide)
 ·rw[if_neg hf]
  exact stuck hf
theorem inline {x:BS} {v:V3} (h:x.Good):(x.inline v).Good:=by
 unfold BS.inline
 split
 ·exact h.push
 ·exact h
end BS.Good
theorem fV {most:Int} {y:List UInt8} {s:St}:s.1.length≤(kA most y s).1.length:=by
 show _≤(ZL s.1 y most s.2).length
 unfold ZL
 repeat' split
 all_goals simp
theorem KL {most x:Int} {s:St}:s.1.length≤(jG most x s).1.length:=by
 unfold jG
 split
 ·exact fV
 ·exact Nat.le_refl _
theorem K4 {most x u:Int} {s:St}:s.1.length≤(jW most x u s).1.length:=by
 unfold jW
 repeat' split
 ·exact fV
 ·exact Nat.le_refl _
 ·exact Nat.le_refl _
namespace BS.Good
theorem push_buf {x:BS} {s':St} {v:V3} (h:x.Good) (hx:x.e=0) (hl:x.s.1.length≤s'.1.length):(({x with s:=s'}:BS).push v).Good:=by
 unfold BS.push
 dsimp only
 by_cases hf:kL x.e s'.2=0
 ·rw[if_pos hf]
  have hs:s'.2=0:=by
   unfold kL at hf
   rw[if_pos hx] at hf
   exact hf
  split
  ·exact⟨fun _=>hs,fun _ z hz=>Int.lt_of_lt_of_le (h.nm hx z hz) (by show (_:Int)≤_;exact_mod_cast hl),fun _=>Nat.le_trans (h.ks hx) hl,fun _=>Nat.le_trans (h.ts hx) hl,fun _=>Nat.le_trans (h.ls hx) hl,fun _=>Nat.le_trans (h.vs hx) hl,fun _=>h.ix hx,fun _ z hz=>Nat.le_trans (h.nz hx z hz) hl⟩
  ·exact stuck (by show (5:Int)≠0;decide)
 ·rw[if_neg hf]
  exact stuck hf
theorem apart {x:BS} {most t:Int} {v:V3} (h:x.Good):(x.apart most t v).Good:=by
 unfold BS.apart
 by_cases hx:x.e=0
 ·rw[if_pos hx]
  exact h.push_buf hx (Nat.le_trans KL K4)
 ·rw[if_neg hx];exact h
end BS.Good
theorem YE {most:Int} {y:List UInt8} {s:St} (h:(kA most y s).2=0):s.2=0∧(kA most y s).1=s.1++y:=by
 have h1:(if s.2=0∧¬(y.length:Int)≤most - s.1.length then (5:Int) else s.2)=0:=h
 split at h1
 ·cases h1
 ·rename_i hn
  refine⟨h1,?_⟩
  show (if s.2=0∧(y.length:Int)≤most - s.1.length then s.1++y else s.1)=_
  rw[if_pos ⟨h1,Decidable.byContradiction fun hk=>hn ⟨h1,hk⟩⟩]
theorem Y7 (k:ByteArray):1≤(jP [k,⟨#[0]⟩]).length:=by
 simp[jP]
namespace BS.Good
theorem put {x:BS} {most:Int} {sh:Bool} {k:ByteArray} (h:x.Good):(x.put most sh k).2.Good:=by
 unfold BS.put
 dsimp only
 by_cases hf:(x.fail (yI k)).e≠0
 ·rw[if_pos hf];exact h.fail
 ·rw[if_neg hf]
  by_cases hg:((yB x.keys k).2 && sh)=true
  ·rw[if_pos hg];exact h.fail
  ·rw[if_neg hg]
   have hf0:kL x.e (yI k)=0:=Decidable.byContradiction hf
   have hx:x.e=0:=by
    unfold kL at hf0
    split at hf0
    ·assumption
    ·exact hf0
   have hxx:x.fail (yI k)={x with e:=yI k}:=by unfold BS.fail kL;rw[if_pos hx]
   rw[hxx]
   have hp:=qO k (x.s.1.length:Int) x.keys
   have hb:=Y7 k
   refine⟨fun e=>e,fun e=>?_,fun e=>?_,fun e=>?_,fun e=>?_,fun e=>?_,fun _=>h.ix hx,fun e=>?_⟩
   rotate_left 5
   all_goals
    have hs:=(YE e).2
    have hl:(kA most (jP [k,⟨#[0]⟩]) x.s).1.length=x.s.1.length+(jP [k,⟨#[0]⟩]).length:=by rw[hs,List.length_append]
    have h1:=h.nm hx
    have h2:=h.ks hx
    have h3:=h.ts hx
    have h4:=h.ls hx
    have h5:=h.vs hx
   ·intro z hz
    show z.2.size≤(kA most (jP [k,⟨#[0]⟩]) x.s).1.length
    rcases List.mem_append.1 hz with hz|hz
    ·have:=h.nz hx z hz;omega
    ·obtain rfl:=List.mem_singleton.1 hz
     have hk2:(jP [k,⟨#[0]⟩]).length=k.size+1:=by
      have h:(jP [k,⟨#[0]⟩]).length=k.data.size+1:=by simp[jP]
      exact h
     show k.size≤_
     omega
   ·intro z hz
    show z.1 < ((kA most (jP [k,⟨#[0]⟩]) x.s).1.length:Int)
    rcases List.mem_append.1 hz with hz|hz
    ·have:=h1 z hz;omega
    ·obtain rfl:=List.mem_singleton.1 hz
     show (x.s.1.length:Int) < _
     omega
   all_goals
    show _≤(kA most (jP [k,⟨#[0]⟩]) x.s).1.length
    dsimp only
    omega
theorem key {x:BS} {most:Int} {sh:Bool} {k:ByteArray} (h:x.Good):(x.key most sh k).Good:=by
 unfold BS.key
 split
 ·exact h.put.push
 ·exact h
theorem fW {y:BS} {v:V3} (h:y.e=0→y.s.2=0→y.Good):(y.push v).Good:=by
 by_cases hf:kL y.e y.s.2=0
 ·have hx:y.e=0∧y.s.2=0:=by
   unfold kL at hf
   split at hf
   ·exact⟨by assumption,hf⟩
   ·rename_i hn;exact absurd hf hn
  exact (h hx.1 hx.2).push
 ·unfold BS.push
  rw[if_neg hf]
  exact stuck hf
theorem text {x:BS} {most t:Int} {k z:ByteArray} (h:x.Good) (hx:x.e=0) (hz:t=5→z=⟨#[0]⟩):(x.text most t k z).Good:=by
 unfold BS.text
 dsimp only
 refine fW fun _ e=>?_
 have h0:=(YE e).2
 have hl0:x.s.1.length≤(jW most (Ft.widthOf k.size) k.size (jG most (Ft.widthOf k.size) x.s)).1.length:=Nat.le_trans KL K4
 generalize jW most (Ft.widthOf k.size) k.size (jG most (Ft.widthOf k.size) x.s)=s1 at *
 have hl:(kA most (jP [k,z]) s1).1.length=s1.1.length+(jP [k,z]).length:=by rw[h0,List.length_append]
 have h1:=h.nm hx
 have h2:=h.ks hx
 have h3:=h.ts hx
 have h4:=h.ls hx
 have h5:=h.vs hx
 refine⟨fun _=>e,fun _ z' hz'=>?_,fun _=>?_,fun _=>?_,fun _=>?_,fun _=>?_,fun _=>h.ix hx,fun _ z' hz'=>?_⟩
 ·show z'.1 < ((kA most (jP [k,z]) s1).1.length:Int)
  have:=h1 z' hz'
  omega
 ·show x.keys.length≤(kA most (jP [k,z]) s1).1.length
  omega
 ·show (if t=5 then zL k (s1.1.length:Int) x.texts else x.texts).length≤(kA most (jP [k,z]) s1).1.length
  by_cases ht:t=5
  ·rw[if_pos ht]
   have hp:=qO k (s1.1.length:Int) x.texts
   have hb:=Y7 k
   rw[hz ht] at hl⊢
   omega
  ·rw[if_neg ht]
   omega
 ·show x.lists.length≤(kA most (jP [k,z]) s1).1.length
  omega
 ·show x.vals.length≤(kA most (jP [k,z]) s1).1.length
  omega
 ·show z'.2.size≤(kA most (jP [k,z]) s1).1.length
  have:=h.nz hx z' hz'
  omega
theorem str {x:BS} {most:Int} {sh:Bool} {k:ByteArray} (h:x.Good):(x.str most sh k).Good:=by
 unfold BS.str
 dsimp only
 by_cases hx:x.e=0
 ·rw[if_pos hx]
  split
  ·exact h.push
  ·exact h.text hx fun _=>rfl
 ·rw[if_neg hx];exact h
theorem blob {x:BS} {most:Int} {k:ByteArray} (h:x.Good):(x.blob most k).Good:=by
 unfold BS.blob
 by_cases hx:x.e=0
 ·rw[if_pos hx]
  exact h.text hx fun e=>absurd e (by decide)
 ·rw[if_neg hx];exact h
end BS.Good
theorem iO {most x:Int} {v:V3} {s:St}:s.1.length≤(zX most x s v).1.length:=by
 unfold zX
 split
 ·exact K4
 ·exact K4
theorem YF {most x:Int}:∀(l:List V3) (s:St),s.1.length≤(jU most x l s).1.length
 | [],_=>Nat.le_refl _
 | v::r,s=>Nat.le_trans iO (YF r (zX most x s v))
theorem Q0 {most x:Int}:∀(l:List V3) (s:St),s.1.length≤(kP most x l s).1.length
 | [],_=>Nat.le_refl _
 | v::r,s=>Nat.le_trans (show s.1.length≤(fP most x s v).1.length from fV) (Q0 r (fP most x s v))
theorem oE {most:Int} {T:V3→Int} {len jT:Bool} {kind e0:Int} {l:List V3} {s:St}:s.1.length≤(zE most T len jT kind e0 l s).2.1.length:=by
 unfold zE
 dsimp only
 by_cases ha:zA T e0 l≠0
 ·rw[if_pos ha];exact Nat.le_refl _
 rw[if_neg ha]
 generalize allF l (0,0,0) s.1.length (if len=true then 1 else 0)=X
 by_cases hb:X=0
 ·rw[if_pos hb];exact Nat.le_refl _
 rw[if_neg hb]
 have h1:s.1.length≤(jG most X s).1.length:=KL
 have h2:s.1.length≤(if len=true then jW most X l.length (jG most X s) else jG most X s).1.length:=by
  split
  ·exact Nat.le_trans h1 K4
  ·exact h1
 have h3:=Nat.le_trans h2 (YF (most:=most) (x:=X) l _)
 have h4:s.1.length≤(if jT=true then kP most X l (jU most X l (if len=true then jW most X l.length (jG most X s) else jG most X s)) else jU most X l (if len=true then jW most X l.length (jG most X s) else jG most X s)).1.length:=by
  split
  ·exact Nat.le_trans h3 (Q0 l _)
  ·exact h3
 generalize (if jT=true then kP most X l (jU most X l (if len=true then jW most X l.length (jG most X s) else jG most X s)) else jU most X l (if len=true then jW most X l.length (jG most X s) else jG most X s))=s4 at h4⊢
 by_cases hc:s4.2≠0
 ·rw[if_pos hc];exact h4
 ·rw[if_neg hc];exact h4
theorem sD {most elem many:Int} {l:List V3} {s:St}:s.1.length≤(kZ most elem many l s).2.1.length:=by
 unfold kZ
 split
 ·exact oE
 ·exact oE
namespace BS.Good
theorem vector {x:BS} {most elem many:Int} {l:List V3} (h:x.Good):(x.vector most elem many l).Good:=by
 unfold BS.vector
 dsimp only
 by_cases hx:x.e=0
 ·rw[if_pos hx]
  refine fW fun _ e=>?_
  have hs:(kZ most elem many l x.s).2.2=0:=e
  have hl:=sD (most:=most) (elem:=elem) (many:=many) (l:=l) (s:=x.s)
  refine fail ⟨fun _=>hs,fun _ z hz=>?_,fun _=>Nat.le_trans (h.ks hx) hl,fun _=>Nat.le_trans (h.ts hx) hl,fun _=>Nat.le_trans (h.ls hx) hl,fun _=>Nat.le_trans (h.vs hx) hl,fun _=>h.ix hx,fun _ z hz=>Nat.le_trans (h.nz hx z hz) hl⟩
  have:=h.nm hx z hz
  show z.1 < ((kZ most elem many l x.s).2.1.length:Int)
  omega
 ·rw[if_neg hx];exact h
theorem putAll {most:Int} {sh:Bool}:∀(l:List ByteArray) {x:BS},x.Good→(x.putAll most sh l).2.Good
 | [],_,h=>h
 | _::r,_,h=>putAll r h.put
theorem keyVec {x:BS} {most:Int} {sh:Bool} {l:List ByteArray} (h:x.Good):(x.keyVec most sh l).Good:=by
 unfold BS.keyVec
 split
 ·exact (putAll l h).vector
 ·exact h
theorem fixed {x:BS} {most elem:Int} {l:List V3} (h:x.Good):(x.fixed most elem l).Good:=by
 unfold BS.fixed
 split
 ·split
  ·exact h.fail
  ·exact h.vector
 ·exact h
theorem stk {x:BS} (h:x.Good) (l:List V3):({x with stk:=l}:BS).Good:=⟨h.s0,h.nm,h.ks,h.ts,h.ls,h.vs,h.ix,h.nz⟩
theorem endVec {x:BS} {most start:Int} (h:x.Good):(x.endVec most start).Good:=by
 unfold BS.endVec
 split
 ·split
  ·exact (h.stk _).vector
  ·exact h.fail
 ·exact h
end BS.Good
theorem sE {most:Int} {y:List UInt8} {s:St} (h:(kA most y s).2=0):s.2=0:=(YE h).1
theorem eB {x:Int} {s:St} (hx:x≠0) (h:(YL x s).2=0):s.2=0∧False:=by
 have h1:kL s.2 x=0:=h
 unfold kL at h1
 split at h1
 ·exact absurd h1 hx
 ·rename_i hn;exact absurd h1 hn
theorem bV {most x u:Int} {s:St} (h:(jW most x u s).2=0):s.2=0∧(jW most x u s).1.length=s.1.length+x.toNat∧isW x=true:=by
 unfold jW at h⊢
 by_cases hw:isW x=true
 ·rw[if_pos hw] at h⊢
  by_cases hf:VA x u=true
  ·rw[if_pos hf] at h⊢
   have:=YE h
   exact⟨this.1,by rw[this.2,List.length_append,j9],hw⟩
  ·rw[if_neg hf] at h
   exact (eB (by decide) h).2.elim
 ·rw[if_neg hw] at h
  exact (eB (by decide) h).2.elim
theorem bW {most x:Int}:∀(l:List V3) {s:St},(jU most x l s).2=0→s.2=0
 | [],_,h=>h
 | v::r,s,h=>by
  have h1:=bW r (s:=zX most x s v) h
  unfold zX at h1
  split at h1
  ·exact (bV h1).1
  ·exact (bV h1).1
theorem eC {most x:Int}:∀(l:List V3) {s:St},(kP most x l s).2=0→s.2=0
 | [],_,h=>h
 | v::r,s,h=>sE (eC r (s:=fP most x s v) h)
theorem putF_gt {most:Int} {T:V3→Int} {jT:Bool} {kind e0:Int} {l:List V3} {s:St} (h:(zE most T true jT kind e0 l s).1.2=0):s.1.length < (zE most T true jT kind e0 l s).2.1.length∧(zE most T true jT kind e0 l s).2.2=0:=by
 unfold zE at h⊢
 dsimp only at h⊢
 by_cases ha:zA T e0 l≠0
 ·rw[if_pos ha] at h;exact absurd h ha
 rw[if_neg ha] at h⊢
 simp only[if_true] at h⊢
 generalize allF l (0,0,0) s.1.length 1=X at h⊢
 by_cases hb:X=0
 ·rw[if_pos hb] at h;cases h
 rw[if_neg hb] at h⊢
 have hg:∀s4:St,(s4=if jT=true then kP most X l (jU most X l (jW most X l.length (jG most X s))) else jU most X l (jW most X l.length (jG most X s)))→s4.2=0→s.1.length < s4.1.length:=by
  intro s4 e h4
  have h3:(jU most X l (jW most X l.length (jG most X s))).2=0∧(jU most X l (jW most X l.length (jG most X s))).1.length≤s4.1.length:=by
   rw[e] at h4⊢
   split at h4
   ·rename_i ht;rw[if_pos ht];exact⟨eC l h4,Q0 l _⟩
   ·rename_i ht;rw[if_neg ht];exact⟨h4,Nat.le_refl _⟩
  have h2:=bV (bW l h3.1)
  have h1:=YF (most:=most) (x:=X) l (jW most X l.length (jG most X s))
  have h0:s.1.length≤(jG most X s).1.length:=KL
  have hw:=kJ h2.2.2
  have:=h2.2.1
  omega
 have hg':=hg _ rfl
 generalize (if jT=true then kP most X l (jU most X l (jW most X l.length (jG most X s))) else jU most X l (jW most X l.length (jG most X s)))=s4 at h hg'⊢
 by_cases hc:s4.2≠0
 ·rw[if_pos hc] at h;exact absurd h hc
 ·rw[if_neg hc]
  exact⟨hg' (Decidable.byContradiction hc),Decidable.byContradiction hc⟩
theorem sF {most x:Int} {k:V3} {n:Nat} {s:St}:s.1.length≤(qF most x k n s).1.length:=by
 unfold qF
 have h1:s.1.length≤(jG most x s).1.length:=KL
 have h2:(jG most x s).1.length≤(zX most x (jG most x s) k).1.length:=iO
 generalize zX most x (jG most x s) k=s2 at h2⊢
 have h3:s2.1.length≤(jW most x k.2.1 s2).1.length:=K4
 generalize jW most x k.2.1 s2=s3 at h3⊢
 have h4:s3.1.length≤(jW most x n s3).1.length:=K4
 omega
theorem putM_ge {most:Int} {k:V3} {l:List V3} {s:St}:s.1.length≤(y3 most k l s).2.1.length:=by
 unfold y3
 dsimp only
 by_cases ha:yX k l≠0
 ·rw[if_pos ha];exact Nat.le_refl _
 rw[if_neg ha]
 generalize allF l k s.1.length 3=X
 by_cases hb:X=0
 ·rw[if_pos hb];exact Nat.le_refl _
 rw[if_neg hb]
 have h4:s.1.length≤(kP most X l (jU most X l (qF most X k l.length s))).1.length:=Nat.le_trans sF (Nat.le_trans (YF l _) (Q0 l _))
 generalize kP most X l (jU most X l (qF most X k l.length s))=s6 at h4⊢
 by_cases hc:s6.2≠0
 ·rw[if_pos hc];exact h4
 ·rw[if_neg hc];exact h4
namespace BS.Good
theorem put_map {x:BS} {most:Int} {k:V3} {vals:List V3} (h:x.Good) (hx:x.e=0):((({x with s:=(y3 most k vals x.s).2}:BS).fail (y3 most k vals x.s).1.2).push (y3 most k vals x.s).1.1).Good:=by
 have hl:=putM_ge (most:=most) (k:=k) (l:=vals) (s:=x.s)
 generalize y3 most k vals x.s=q at hl⊢
 refine fW fun _ e=>?_
 have hs:q.2.2=0:=e
 refine fail ⟨fun _=>hs,fun _ z hz=>?_,fun _=>Nat.le_trans (h.ks hx) hl,fun _=>Nat.le_trans (h.ts hx) hl,fun _=>Nat.le_trans (h.ls hx) hl,fun _=>Nat.le_trans (h.vs hx) hl,fun _=>h.ix hx,fun _ z hz=>Nat.le_trans (h.nz hx z hz) hl⟩
 have:=h.nm hx z hz
 show z.1 < (q.2.1.length:Int)
 omega
theorem newList {x:BS} {most:Int} {list:ByteArray} {keys:List V3} (h:x.Good) (hx:x.e=0):({x with s:=(kZ most 4 0 keys x.s).2,e:=kL x.e (kZ most 4 0 keys x.s).1.2,lists:=zL list x.vals.length x.lists,vals:=x.vals++[(kZ most 4 0 keys x.s).1.1]}:BS).Good:=by
 have hgt:=fun h=>(putF_gt (most:=most) (T:=j4 4) (jT:=false) (kind:=(typedF 4 0).1) (e0:=0) (l:=keys) (s:=x.s) h)
 have hq:kZ most 4 0 keys x.s=zE most (j4 4) true false (typedF 4 0).1 0 keys x.s:=rfl
 rw[← hq] at hgt
 generalize kZ most 4 0 keys x.s=q at hgt⊢
 have hf:kL x.e q.1.2=q.1.2:=by unfold kL;rw[if_pos hx]
 have hp:=qO list (x.vals.length:Int) x.lists
 have h1:=h.nm hx
 have h2:=h.ks hx
 have h3:=h.ts hx
 have h4:=h.ls hx
 have h5:=h.vs hx
 have h6:=h.ix hx
 refine⟨fun e=>(hgt (hf ▸ e)).2,fun e z hz=>?_,fun e=>?_,fun e=>?_,fun e=>?_,fun e=>?_,fun e z hz=>?_,fun e z hz=>Nat.le_trans (h.nz hx z hz) (Nat.le_of_lt (hgt (hf ▸ e)).1)⟩
 ·have:=(hgt (hf ▸ e)).1;have:=h1 z hz;show z.1 < (q.2.1.length:Int);omega
 ·have:=(hgt (hf ▸ e)).1;show x.keys.length≤q.2.1.length;omega
 ·have:=(hgt (hf ▸ e)).1;show x.texts.length≤q.2.1.length;omega
 ·have:=(hgt (hf ▸ e)).1;show (zL list (x.vals.length:Int) x.lists).length≤q.2.1.length;omega
 ·have:=(hgt (hf ▸ e)).1;show (x.vals++[q.1.1]).length≤q.2.1.length;rw[List.length_append];simp;omega
 ·show 0≤z.2∧z.2 < ((x.vals++[q.1.1]).length:Int)
  rw[List.length_append]
  rcases QZ hz with hz|⟨rfl,_,_⟩
  ·have:=h6 z hz;simp;omega
  ·simp;omega
theorem table {x:BS} {most:Int} {sh:Bool} {list:ByteArray} {keys vals:List V3} (h:x.Good) (hx:x.e=0):(x.table most sh list keys vals).Good:=by
 unfold BS.table
 dsimp only
 have hG:=h.newList (most:=most) (list:=list) (keys:=keys) hx
 generalize kZ most 4 0 keys x.s=q at hG⊢
 cases hg:((yB x.lists list).2 && sh) with
 | true=>
  simp only[if_true]
  rw[if_pos hx]
  exact h.put_map hx
 | false=>
  simp only[Bool.false_eq_true,if_false]
  by_cases he:kL x.e q.1.2=0
  ·rw[if_pos he];exact hG.put_map he
  ·rw[if_neg he];exact hG
theorem endMap {x:BS} {most start:Int} {sh:Bool} (h:x.Good):(x.endMap most sh start).Good:=by
 unfold BS.endMap
 dsimp only
 by_cases hx:x.e=0
 ·rw[if_pos hx]
  split
  ·split
   ·split
    ·exact (h.stk _).table hx
    ·exact h.fail
   ·exact h.fail
  ·exact h.fail
 ·rw[if_neg hx];exact h
end BS.Good
end Go.Proofs.YtjnpcddbgfmpcaaGreatDoor
namespace Go.Proofs.YtjnpcddbgfmpcaaGreatDoor
open Go.Proofs.Tryz
open Go Go.ChangeShapes Go.WideShapes Go.ChangeAt Go.RowKit Go.Joins Go.Deep
open Go.Proofs.YtjnpcddbgfmpcaaGreatDoor.Ft (V3 vV okV ValsAt inlineB legalB packF codeF typedF allF)
structure DoB where
 kind:Int
 start:Int
 n:Int
 u:Int
 s:ByteArray
 l:List Int
 t:List ByteArray
def DoB.ints (d:DoB):List Int:=d.l.take 40
def DoB.uints (d:DoB):List Int:=(d.l.take 40).map (· % 18446744073709551616)
def DoB.bools (d:DoB):List Bool:=(d.l.take 40).map fun v=>decide (v % 2≠0)
def DoB.from_ (d:DoB) (many:Nat):Int:=if d.u % 8=7 then d.start else d.start % (many+1)
def z6:List UInt8 × Int:=([],0)
def doB (most flags:Int) (d:DoB) (x:BS):(List UInt8 × Int) × BS:=
 if d.kind % 18=0 then (z6,x.inline (0,1,0))
 else if d.kind % 18=1 then (z6,x.inline (zU (decide (d.n % 2≠0))))
 else if d.kind % 18=2 then (z6,x.inline (y4 d.n))
 else if d.kind % 18=3 then (z6,x.inline (yR d.u))
 else if d.kind % 18=4 then (z6,x.apart most 6 (y4 d.n))
 else if d.kind % 18=5 then (z6,x.apart most 7 (yR d.u))
 else if d.kind % 18=6 then (z6,x.key most (onF flags 1) (yP d.s 60))
 else if d.kind % 18=7 then (z6,x.str most (onF flags 2) (yP d.s 60))
 else if d.kind % 18=8 then (z6,x.blob most (yP d.s 60))
 else if d.kind % 18=9 then (z6,x.vector most 1 0 (d.ints.map y4))
 else if d.kind % 18=10 then (z6,x.vector most 2 0 (d.uints.map yR))
 else if d.kind % 18=11 then (z6,x.vector most 26 0 (d.bools.map zU))
 else if d.kind % 18=12 then (z6,x.keyVec most (onF flags 1) (zQ d.t 20 60))
 else if d.kind % 18=13 then (z6,x.fixed most 1 (d.ints.map y4))
 else if d.kind % 18=14 then (z6,x.fixed most 2 (d.uints.map yR))
 else if d.kind % 18=15 then (z6,x.endVec most (d.from_ x.stk.length))
 else if d.kind % 18=16 then (z6,x.endMap most (onF flags 4) (d.from_ x.stk.length))
 else x.finish most
def BS.new:BS:=⟨([],0),0,[],[],[],[],[],[]⟩
def doAll (most flags:Int) (l:List DoB) (x:BS):BS:=l.foldl (fun x d=>(doB most flags d x).2) x
def vS (flags:Int) (want:ByteArray) (e:Int) (l:List DoB):Bool:=
 decide ((⟨((doAll 1000 flags l BS.new).finish 1000).1.1.toArray⟩:ByteArray)=want) && decide (((doAll 1000 flags l BS.new).finish 1000).1.2=e)
theorem bX {a b:Int} (h:b≠0):kL a b≠0:=by
 unfold kL
 split
 ·exact h
 ·assumption
theorem yL {α:Type} {c:Prop} [Decidable c] {P:α→Prop} {a b:α} (ha:P a) (hb:P b):P (if c then a else b):=by
 split
 ·exact ha
 ·exact hb
theorem mT {most:Int} {x:BS}:(x.finish most).2.e≠0:=by
 unfold BS.finish
 dsimp only
 generalize (if x.stk.length≠1 then x.fail 140 else x)=x0
 by_cases h:x0.e≠0
 ·rw[if_pos h];exact h
 ·rw[if_neg h];exact bX (by decide)
theorem BS.Good.finish {most:Int} {x:BS}:(x.finish most).2.Good:=BS.Good.stuck mT
theorem BS.Good.doB {most flags:Int} {d:DoB} {x:BS} (h:x.Good):(doB most flags d x).2.Good:=by
 unfold Go.Proofs.YtjnpcddbgfmpcaaGreatDoor.doB
 refine yL (P:=fun r:(List UInt8 × Int) × BS=>r.2.Good) ?_ (yL (P:=fun r:(List UInt8 × Int) × BS=>r.2.Good) ?_ (yL (P:=fun r:(List UInt8 × Int) × BS=>r.2.Good) ?_ (yL (P:=fun r:(List UInt8 × Int) × BS=>r.2.Good) ?_ (yL (P:=fun r:(List UInt8 × Int) × BS=>r.2.Good) ?_ (yL (P:=fun r:(List UInt8 × Int) × BS=>r.2.Good) ?_ (yL (P:=fun r:(List UInt8 × Int) × BS=>r.2.Good) ?_ (yL (P:=fun r:(List UInt8 × Int) × BS=>r.2.Good) ?_ (yL (P:=fun r:(List UInt8 × Int) × BS=>r.2.Good) ?_ (yL (P:=fun r:(List UInt8 × Int) × BS=>r.2.Good) ?_ (yL (P:=fun r:(List UInt8 × Int) × BS=>r.2.Good) ?_ (yL (P:=fun r:(List UInt8 × Int) × BS=>r.2.Good) ?_ (yL (P:=fun r:(List UInt8 × Int) × BS=>r.2.Good) ?_ (yL (P:=fun r:(List UInt8 × Int) × BS=>r.2.Good) ?_ (yL (P:=fun r:(List UInt8 × Int) × BS=>r.2.Good) ?_ (yL (P:=fun r:(List UInt8 × Int) × BS=>r.2.Good) ?_ (yL (P:=fun r:(List UInt8 × Int) × BS=>r.2.Good) ?_ (?_)))))))))))))))))
 ·exact h.inline
 ·exact h.inline
 ·exact h.inline
 ·exact h.inline
 ·exact h.apart
 ·exact h.apart
 ·exact h.key
 ·exact h.str
 ·exact h.blob
 ·exact h.vector
 ·exact h.vector
 ·exact h.vector
 ·exact h.keyVec
 ·exact h.fixed
 ·exact h.fixed
 ·exact h.endVec
 ·exact h.endMap
 ·exact BS.Good.finish
theorem BS.Good.new:BS.new.Good:=⟨fun _=>rfl,fun _ z hz=>absurd hz List.not_mem_nil,fun _=>Nat.le_refl _,fun _=>Nat.le_refl _,fun _=>Nat.le_refl _,fun _=>Nat.le_refl _,fun _ z hz=>absurd hz List.not_mem_nil,fun _ z hz=>absurd hz List.not_mem_nil⟩
end Go.Proofs.YtjnpcddbgfmpcaaGreatDoor
namespace Go.Proofs.YtjnpcddbgfmpcaaGreatDoor
open Go.Proofs.Tryz
open Go Go.ChangeShapes Go.WideShapes Go.ChangeAt Go.RowKit Go.Joins Go.Deep
open Go.Proofs.YtjnpcddbgfmpcaaGreatDoor.Ft (V3 vV okV ValsAt inlineB legalB packF codeF typedF allF oneF fitsF belowW)
theorem push_ok {x:BS} {v:V3} (he:x.e=0) (hs:x.s.2=0) (hl:x.stk.length+1≤65536):x.push v={x with stk:=x.stk++[v]}:=by
 obtain⟨s,e,stk,a,b,c,d,f⟩:=x
 dsimp only at he hs hl
 subst he
 unfold BS.push
 have h0:kL 0 s.2=0:=by unfold kL;rw[if_pos rfl];exact hs
 dsimp only
 rw[if_pos h0,if_pos hl]
def vT (p w:Int) (v:V3):Int:=if inlineB v.1 then kY v.2.2 w else p - v.2.2
def ZD (w:Int) (v:V3):UInt8:=UInt8.ofNat (packF v.1 (if inlineB v.1 then w else v.2.1)).1.toNat
def VN (b:List UInt8) (v:V3):List UInt8:=
 let w:=oneF v.1 v.2.1 v.2.2 b.length 0
 b++[j6 (j5 b w),kH w.toNat (vT ((b.length:Int)+j5 b w) w v).toNat,[ZD w v,UInt8.ofNat w.toNat]].flatten
theorem one_isW {t wd n p:Int} (h:oneF t wd n p 0≠0):isW (oneF t wd n p 0)=true:=by
 unfold oneF at h⊢
 split at h
 ·rename_i hc
  rw[if_pos hc]
  unfold Ft.leastOf at h⊢
  repeat' split at h
  all_goals simp_all [isW]
 ·exact absurd rfl h
theorem ZY {b:List UInt8} {v:V3} (hb:b.length≤1048576) (hn:ZG b.length v):isW (oneF v.1 v.2.1 v.2.2 b.length 0)=true∧fitsF v.1 v.2.1 v.2.2 b.length 0 (oneF v.1 v.2.1 v.2.2 b.length 0)=true:=by
 obtain⟨_,ho,h1,h2⟩:=hn
 have hp8:(2:Int) ^ (8*(8:Int).toNat)=18446744073709551616:=by decide
 have h8:fitsF v.1 v.2.1 v.2.2 b.length 0 8=true:=by
  unfold fitsF
  cases hi:inlineB v.1 with
  | true=>simp;exact h1 hi
  | false=>
   have h3:=h2 hi
   have h4:=ho.1
   simp only[Bool.false_eq_true,if_false,Bool.and_eq_true,decide_eq_true_eq,belowW,hp8]
   exact⟨h3,by omega⟩
 have e:oneF v.1 v.2.1 v.2.2 b.length 0=Ft.leastOf (fun w=>fitsF v.1 v.2.1 v.2.2 b.length 0 w):=by
  unfold oneF
  rw[if_pos ⟨⟨by omega,by omega⟩,by omega,by omega⟩]
 have h0:oneF v.1 v.2.1 v.2.2 b.length 0≠0:=by rw[e];exact Y3 (p:=fun w=>fitsF v.1 v.2.1 v.2.2 b.length 0 w) h8
 refine⟨one_isW h0,?_⟩
 have:=J8 (p:=fun w=>fitsF v.1 v.2.1 v.2.2 b.length 0 w) (by rw[← e];exact h0)
 rw[← e] at this
 exact this
theorem eD {b:List UInt8} {v:V3} {w:Int} (hw:isW w=true) (hn:ZG b.length v) (hf:fitsF v.1 v.2.1 v.2.2 b.length 0 w=true) :
 0≤vT ((b.length:Int)+j5 b w) w v∧vT ((b.length:Int)+j5 b w) w v < 2 ^ (8*w.toNat):=by
 unfold vT
 unfold fitsF at hf
 cases hi:inlineB v.1 with
 | true=>
  simp only[if_true]
  exact r7 _ _
 | false=>
  rw[hi] at hf
  simp only[Bool.false_eq_true,if_false,Bool.and_eq_true,decide_eq_true_eq,belowW,Int.zero_mul,Int.add_zero] at hf⊢
  rw[bQ hw]
  have hge:(b.length:Int)≤((b.length:Int)+w - 1) / w*w:=by rcases kJ hw with rfl | rfl | rfl | rfl<;>omega
  exact⟨by omega,hf.2⟩
theorem Y8 {b:List UInt8} {v:V3} (hw:isW (oneF v.1 v.2.1 v.2.2 b.length 0)=true):((VN b v).length:Int)=b.length+j5 b (oneF v.1 v.2.1 v.2.2 b.length 0)+oneF v.1 v.2.1 v.2.2 b.length 0+2:=by
 have hp:=kI hw
 unfold VN
 simp only[List.flatten_cons,List.flatten_nil,List.length_append,jX,j9,List.length_cons,List.length_nil]
 omega
theorem fX {most:Int} {x:BS} {b:List UInt8} {v:V3} (he:x.e=0) (hs:x.s=(b,0)) (hk:x.stk=[v]) (hb:b.length≤1048576) (hbm:(b.length:Int)≤most) (hn:ZG b.length v) :
 (x.finish most).1=(QQ (zY most [j6 (j5 b (oneF v.1 v.2.1 v.2.2 b.length 0)),kH (oneF v.1 v.2.1 v.2.2 b.length 0).toNat (vT ((b.length:Int)+j5 b (oneF v.1 v.2.1 v.2.2 b.length 0)) (oneF v.1 v.2.1 v.2.2 b.length 0) v).toNat,[ZD (oneF v.1 v.2.1 v.2.2 b.length 0) v,UInt8.ofNat (oneF v.1 v.2.1 v.2.2 b.length 0).toNat]] (b,0)),(zY most [j6 (j5 b (oneF v.1 v.2.1 v.2.2 b.length 0)),kH (oneF v.1 v.2.1 v.2.2 b.length 0).toNat (vT ((b.length:Int)+j5 b (oneF v.1 v.2.1 v.2.2 b.length 0)) (oneF v.1 v.2.1 v.2.2 b.length 0) v).toNat,[ZD (oneF v.1 v.2.1 v.2.2 b.length 0) v,UInt8.ofNat (oneF v.1 v.2.1 v.2.2 b.length 0).toNat]] (b,0)).2):=by
 obtain⟨hw,hf⟩:=ZY hb hn
 unfold BS.finish
 have h0:(if x.stk.length≠1 then x.fail 140 else x)=x:=by rw[hk];rfl
 simp only[h0,he,hs,hk,ne_eq,not_true_eq_false,if_false,zq4]
 generalize oneF v.1 v.2.1 v.2.2 b.length 0=w at *
 have hr:=eD hw hn hf
 have hpw:=oB hw
 have e1:jG most w (b,0)=kA most (j6 (j5 b w)) (b,0):=by unfold jG;rw[if_pos hw]
 rw[e1]
 have key:kA most [UInt8.ofNat (packF v.1 (if inlineB v.1=true then w else v.2.1)).1.toNat,UInt8.ofNat w.toNat] (jW most w (if inlineB v.1=true then kY v.2.2 w else IntKind.u64.wrap (((kA most (j6 (j5 b w)) (b,0)).1.length:Int) - v.2.2)) (kA most (j6 (j5 b w)) (b,0)))=zY most [j6 (j5 b w),kH w.toNat (vT ((b.length:Int)+j5 b w) w v).toNat,[ZD w v,UInt8.ofNat w.toNat]] (b,0):=by
  show kA most _ (jW most w _ _)=kA most _ (kA most _ (kA most (j6 (j5 b w)) (b,0)))
  by_cases hfit:(b.length:Int)+j5 b w≤most
  ·rw[vL _ _ _ (by rw[jX];exact hfit)]
   have hn2:(if inlineB v.1=true then kY v.2.2 w else IntKind.u64.wrap (((b++j6 (j5 b w),(0:Int)).1.length:Int) - v.2.2))=vT ((b.length:Int)+j5 b w) w v:=by
    unfold vT at hr⊢
    have hl:(((b++j6 (j5 b w),(0:Int)).1.length:Nat):Int)=(b.length:Int)+j5 b w:=by
     show ((b++j6 (j5 b w)).length:Int)=_
     rw[List.length_append,jX];omega
    split
    ·rfl
    ·rename_i hi
     rw[if_neg hi] at hr
     rw[hl,IntKind.wrap_u64]
     omega
   rw[hn2,KK hw hr.2]
   rfl
  ·have h5:kA most (j6 (j5 b w)) (b,0)=(b,5):=YB (by rw[jX];exact hfit)
   rw[h5,bO (s:=(b,5)) (show (5:Int)≠0 by decide),JT (s:=(b,5)) (show (5:Int)≠0 by decide),JT (s:=(b,5)) (show (5:Int)≠0 by decide),JT (s:=(b,5)) (show (5:Int)≠0 by decide)]
 rw[key]
 simp only[List.length_cons,List.length_nil,Nat.zero_add,not_true_eq_false,if_false,he]
theorem pH {most:Int} {x:BS} {b:List UInt8} {v:V3} (he:x.e=0) (hs:x.s=(b,0)) (hk:x.stk=[v]) (hb:b.length≤1048576) (hn:ZG b.length v) (hm:((VN b v).length:Int)≤most):(x.finish most).1=(VN b v,0):=by
 have hl:=Y8 (ZY hb hn).1
 have hp:=kI (ZY hb hn).1
 rw[fX he hs hk hb (by omega) hn]
 have e:=JH (most:=most) [j6 (j5 b (oneF v.1 v.2.1 v.2.2 b.length 0)),kH (oneF v.1 v.2.1 v.2.2 b.length 0).toNat (vT ((b.length:Int)+j5 b (oneF v.1 v.2.1 v.2.2 b.length 0)) (oneF v.1 v.2.1 v.2.2 b.length 0) v).toNat,[ZD (oneF v.1 v.2.1 v.2.2 b.length 0) v,UInt8.ofNat (oneF v.1 v.2.1 v.2.2 b.length 0).toNat]] b (by
  have h2:((VN b v).length:Int)=b.length+([j6 (j5 b (oneF v.1 v.2.1 v.2.2 b.length 0)),kH (oneF v.1 v.2.1 v.2.2 b.length 0).toNat (vT ((b.length:Int)+j5 b (oneF v.1 v.2.1 v.2.2 b.length 0)) (oneF v.1 v.2.1 v.2.2 b.length 0) v).toNat,[ZD (oneF v.1 v.2.1 v.2.2 b.length 0) v,UInt8.ofNat (oneF v.1 v.2.1 v.2.2 b.length 0).toNat]].flatten.length:Nat):=by
   unfold VN
   rw[List.length_append]
   omega
  omega)
 rw[e]
 rfl
end Go.Proofs.YtjnpcddbgfmpcaaGreatDoor
namespace Go.Proofs.YtjnpcddbgfmpcaaGreatDoor
open Go.Proofs.Tryz
open Go Go.ChangeShapes Go.WideShapes Go.ChangeAt Go.RowKit Go.Joins Go.Deep
open Go.Proofs.YtjnpcddbgfmpcaaGreatDoor.Ft (V3 vV okV ValsAt inlineB legalB packF codeF typedF allF)
def bY (w:World) (B:Nat) (v:Value) (L:List Int):Prop:=w.ownsRow B 3 1 v L.length (L.map (Value.int .i64))
def zV (w:World) (p:Nat) (S:Nat→Prop) (l:zR):Prop:=
 S p∧∃kv av,w.heap[p]? = some (.cells #[kv,av,.bool true] 115 (0,0))∧yN w 0 kv (ZB l)∧bY w 0 av (KH l)∧(∀g,kv.ownBlock=some g→S g)∧∀g,av.ownBlock=some g→S g
section
variable {w w':World} {p:Nat} {S S' T:Nat→Prop} {l:zR}
theorem zV.kept (h:zV w p S l) (hm:Moved T w w') (hd:∀k,S k→¬T k):zV w' p S l:=by
 obtain⟨h0,kv,av,h1,h2,h3,h4,h5⟩:=h
 exact⟨h0,kv,av,hm.heap h1 (hd _ h0),hm.owns h2 (fun k hk=>hd k (h4 k hk)),hm.owns h3 (fun k hk=>hd k (h5 k hk)),h4,h5⟩
theorem zV.mono (h:zV w p S l) (hs:∀k,k < w.heap.size→S k→S' k):zV w p S' l:=by
 obtain⟨h0,kv,av,h1,h2,h3,h4,h5⟩:=h
 exact⟨hs _ (Array.getElem?_eq_some_iff.1 h1).1 h0,kv,av,h1,h2,h3,fun g hg=>hs g (JE h2 hg) (h4 g hg),fun g hg=>hs g (JE h3 hg) (h5 g hg)⟩
theorem zV.grew (h:zV w p S l) (hg:jA w w'):zV w' p S l:=h.kept (Moved.of_grew (S:=fun _=>False) hg) (fun _ _ h=>h)
theorem fY {B:Nat} {e:TypeId} {a:Option Addr} {n c:Nat} {xs:List Value} (h:w.ownsRow B e 1 (.slice a n c) n xs) {i:Nat} {x:Value} (hx:xs[i]? = some x):∃g,a=some ⟨g,0,none⟩∧w.cell? ⟨g,i,none⟩=some x:=by
 rcases h.2 with ⟨e,hn⟩|⟨g,cap,cur,e,_⟩
 ·have h1:=h.1
  have:=(List.getElem?_eq_some_iff.1 hx).1
  omega
 ·injection e with e1 e2 e3
  subst e1
  have:=World.ownsRow.cells h (g:=g) rfl i x hx
  rw[add0,Nat.zero_add] at this
  exact⟨g,rfl,this⟩
end
theorem KM {w:World} {p:Nat} {S:Nat→Prop} {l:zR} (h:zV w p S l):Calls prog 111 #[jF p] w fun r w'=>r=.returned (.bool false)∧w'=w:=by
 obtain⟨_,kv,av,h1,_⟩:=h
 obtain⟨c0,c1,c2⟩:=J1 h1
 clear h1
 go_enter func111,ntmps111
 go_wp2
 go_ret
 exact⟨rfl,rfl⟩
theorem bZ (w:World):Calls prog 25 #[] w fun r w'=>r=.returned (jF w.heap.size)∧zV w' w.heap.size (fun k=>k=w.heap.size) []∧jA w w'∧w'.heap.size=w.heap.size+1:=by
 go_enter func25,ntmps25
 go_wp2
 go_ret
 exact⟨rfl,⟨rfl,_,_,heap_alloc_new _ _,World.ownsRow_nil _ _ _ _,World.ownsRow_nil _ _ _ _,fun g hg=>(by cases hg),fun g hg=>(by cases hg)⟩,(jA.refl w).alloc _,World.size_alloc _ _⟩
theorem VO {w:World} {p:Nat} {S:Nat→Prop} {l:zR} (k:ByteArray) (h:zV w p S l) :
 Calls prog 112 #[jF p,.string k] w fun r w'=>r=.returned (.tuple #[.int .i64 (yJ l k:Nat),.bool (fK l k)])∧jA w w':=by
 obtain⟨_,kv,av,h1,h2,_⟩:=h
 obtain⟨K,hK⟩:∃K,ZB l=K:=⟨_,rfl⟩
 have hP:yJ l k=y7 K k 0 K.length:=by rw[yJ,hK,← hK,v8]
 have hH:fK l k=decide (K[yJ l k]? = some k):=by rw[fK,hK]
 rw[hH,hP]
 rw[hK] at h2
 clear hP hH hK
 obtain⟨c0,c1,c2⟩:=J1 h1
 obtain⟨a,c,rfl,hlc,hcm,_⟩:=j7 h2
 have HR:Hid (∀(i:Nat) (x:ByteArray),K[i]? = some x→∃g,a=some ⟨g,0,none⟩∧w.cell? ⟨g,i,none⟩=some (.string x)):=fun i x hx=>fY h2 (by simp[hx])
 unfold k9 at hcm
 have j8:K.length≤9223372036854775807:=by omega
 clear h1 h2 hlc hcm
 go_enter func112,ntmps112
 go_wp2_with fail
 go_quiet (fail)
 have G:=(jA.refl w).drewN nq
 have HG:=zh G
 replace c0:=jA.cell G c0
 clear c1 c2
 have HR2:Hid (∀(i:Nat) (x:ByteArray),K[i]? = some x→∃g,a=some ⟨g,0,none⟩∧(w.drewN nq).cell? ⟨g,i,none⟩=some (.string x)):=fun i x hx=>by
  obtain⟨g,e,hc⟩:=HR.out i x hx
  exact⟨g,e,G.cell hc⟩
 clear G HR
 generalize w.drewN nq=x0 at *
 go_wp2_with fail
 go_loop [6,7] (fun x y=>∃lo hi:Nat,lo≤hi∧hi≤K.length∧x=.int .i64 lo∧y=.int .i64 hi∧Hid (y7 K k lo hi=y7 K k 0 K.length)) (fun x y=>(intOf y).toNat - (intOf x).toNat)
 case atStart=>exact⟨0,K.length,by omega,Nat.le_refl _,rfl,rfl,by show _=_;rfl⟩
 case round=>
  obtain⟨lo,hi,h1,h2,rfl,rfl,HE⟩:=hrel
  by_cases hlt:lo < hi
  ·have hml:lo≤lo+(hi - lo) / 2:=by omega
   have hmh:lo+(hi - lo) / 2 < hi:=by omega
   obtain⟨x,hx⟩:∃x,K[lo+(hi - lo) / 2]? = some x:=⟨_,List.getElem?_eq_getElem (by omega)⟩
   have hh:y7 K k lo hi=if ltS x k then y7 K k (lo+(hi - lo) / 2+1) hi else y7 K k lo (lo+(hi - lo) / 2):=by
    rw[y7,if_pos hlt]
    have:K.getD (lo+(hi - lo) / 2) ByteArray.empty=x:=by simp[List.getD,hx]
    rw[this]
   have HH:=zh hh
   obtain⟨g,rfl,c3⟩:=HR2.out _ x hx
   have HM:=zh (And.intro hml hmh)
   have hmn:(lo:Int)+((hi:Int) - lo) / 2 < K.length:=by omega
   have hlti:(lo:Int) < hi:=by omega
   have h2i:(hi:Int)≤K.length:=by omega
   clear hh hx hml hmh
   cases hb:ltS x k with
   | true=>
    have HB:=zh hb
    clear hb
    go_wp2_with fail
    refine (dQ _ _ _).mono ?_
    rw[HB.out]
    rintro r w' ⟨rfl,rfl⟩
    go_wp2_with fail
    go_round
    case rel=>exact⟨lo+(hi - lo) / 2+1,hi,by have:=HM.out;omega,h2,congrArg (Value.int _) (by omega),rfl,by
     show _=_
     rw[← HE.out,HH.out,HB.out,if_pos rfl]⟩
    case measure=>simp[intOf];omega
   | false=>
    have HB:=zh hb
    clear hb
    go_wp2_with fail
    refine (dQ _ _ _).mono ?_
    rw[HB.out]
    rintro r w' ⟨rfl,rfl⟩
    go_wp2_with fail
    go_round
    case rel=>exact⟨lo,lo+(hi - lo) / 2,by have:=HM.out;omega,by have:=HM.out;omega,rfl,congrArg (Value.int _) (by omega),by
     show _=_
     rw[← HE.out,HH.out,HB.out];rfl⟩
    case measure=>simp[intOf];omega
  ·obtain rfl:lo=hi:=by omega
   have he:y7 K k 0 K.length=lo:=by rw[← HE.out,y7,if_neg (by omega)]
   have HF:=zh he
   clear he HE
   by_cases hl2:lo < K.length
   ·obtain⟨x,hx⟩:∃x,K[lo]? = some x:=⟨_,List.getElem?_eq_getElem hl2⟩
    obtain⟨g,rfl,c3⟩:=HR2.out _ x hx
    have hli:(lo:Int) < K.length:=by omega
    have HX:=zh hx
    clear hx
    have hbe:(x.toList == k.toList)=decide (x=k):=by rw[YY]
    go_wp2_with fail
    go_quiet (fail)
    have HG2:=zh (HG.out.trans ((jA.refl x0).drewN nq))
    go_wp2
    go_ret2
    refine⟨?_,HG2.out⟩
    rw[HF.out,HX.out]
    simp
   ·have hli:¬(lo:Int) < K.length:=by omega
    have hl0:K[lo]? = none:=List.getElem?_eq_none (by omega)
    have HX:=zh hl0
    clear hl0
    go_wp2_with fail
    go_quiet (fail)
    have HG2:=zh (HG.out.trans ((jA.refl x0).drewN nq))
    go_wp2
    go_ret2
    refine⟨?_,HG2.out⟩
    rw[HF.out,HX.out]
    simp
theorem fZ {w:World} {p:Nat} {S:Nat→Prop} {l:zR} (k:ByteArray) (h:zV w p S l) :
 Calls prog 71 #[jF p,.string k] w fun r w'=>r=.returned (.tuple #[.int .i64 (yB l k).1,.bool (yB l k).2])∧jA w w':=by
 have HB:=zh h
 obtain⟨_,kv,av,h1,h2,h3,_⟩:=h
 obtain⟨c0,c1,c2⟩:=J1 h1
 obtain⟨a,c,rfl,hlc,hcm,_⟩:=j7 h3
 have HA:=zh h3
 have HL:=zh (aO (l:=l) (k:=k))
 unfold k9 at hcm
 have j8:(KH l).length≤9223372036854775807:=by omega
 clear h1 h2 h3 hlc hcm
 go_enter func71,ntmps71
 go_wp2_with fail
 refine (KM HB.out).mono ?_
 rintro r w' ⟨rfl,rfl⟩
 go_wp2_with fail
 refine (VO k HB.out).mono ?_
 rintro r w2 ⟨rfl,hg⟩
 cases hp:fK l k with
 | true=>
  have hlt:=HL.out hp
  have hlt2:(yJ l k:Int) < (KH l).length:=by rw[J3];omega
  obtain⟨x,hx⟩:∃x,(KH l)[yJ l k]? = some x:=⟨_,List.getElem?_eq_getElem (by rw[J3];exact hlt)⟩
  obtain⟨g,rfl,c3⟩:=fY HA.out (show ((KH l).map (Value.int .i64))[yJ l k]? = some (.int .i64 x) by simp[hx])
  have HE:Hid (yB l k=(x,true)):=by show _=_;rw[yB,hp,if_pos rfl];simp[List.getD_eq_getElem?_getD,hx]
  have d0:=hg.cell c1
  have d1:=hg.cell c3
  have HG:=zh hg
  clear hx hp hlt hg c0 c1 c2 c3
  generalize yJ l k=i at *
  generalize (KH l).length=n at *
  go_wp2
  go_ret2
  exact⟨by rw[HE.out];rfl,HG.out⟩
 | false=>
  have HE:Hid (yB l k=(0,false)):=by show _=_;rw[yB,hp];rfl
  have HG:=zh hg
  clear hp hg
  go_wp2
  go_ret2
  exact⟨by rw[HE.out];rfl,HG.out⟩
theorem b6:∃i0,Tryz.prog.info? 3=some i0∧i0.zero=some (.int .i64 0)∧i0.size=1∧i0.bytes=8:=by
 have h:=Tryz.infoIntK
 cases hi:Tryz.prog.info? 3 with
 | none=>rw[hi] at h;cases h
 | some i=>
  rw[hi] at h
  simp at h
  exact⟨i,rfl,h.1,h.2.1,h.2.2⟩
theorem sG {o:Oper} {a:Act} {K:Act→World→Prop} {Q:Exit→Act→World→Prop} (w:World) (s x:Operand) (ho:o.op=.call {callee:=.builtin .append,args:=#[s,x],argTypes:=#[22,22]})
 (v:Value) (ss:List ByteArray) (hs:a.eval s=v) (j3:yN w 0 v ss) (g:Nat) (z:ByteArray) (hx:a.eval x=.slice (some ⟨g,0,none⟩) 1 1) (hc:w.cell? ⟨g,0,none⟩=some (.string z)) (j8:ss.length≤1048577)
 (h:∀v' w',yN w' 0 v' (ss++[z])→w.grownBy w' v.ownBlock→zO w v.ownBlock v'.ownBlock→K (a.put o.dst v') w'):o.wp prog a w K Q:=by
 obtain⟨i0,hi,hz0,hz1,hz2⟩:=VC
 obtain⟨v',w',hr,h2,h3,h4⟩:=y6 (P:=prog) w 0 22 o.type 9 i0 (.string ⟨#[]⟩) 1 16 underlying22 hi hz0 hz1 hz2 rfl (by decide) v ss.length _ j3 ⟨g,0,none⟩ 1 1 [.string z] rfl (fun j u hj=>by
  have hj0:j=0:=by have:=(List.getElem?_eq_some_iff.1 hj).1;simp at this;omega
  subst hj0
  simp at hj
  subst hj
  rw[add0];exact hc) (by intro u hu;simp at hu;subst hu;rfl) (by unfold maxLen;omega) (by omega) (Nat.zero_le _)
 refine Lib.wp_append_run w s x 22 22 ho v _ hs hx v' w' hr (h v' w' ?_ h3 h4)
 unfold yN
 rw[List.length_append,List.map_append]
 exact h2
theorem sH {o:Oper} {a:Act} {K:Act→World→Prop} {Q:Exit→Act→World→Prop} (w:World) (s x:Operand) (ho:o.op=.call {callee:=.builtin .append,args:=#[s,x],argTypes:=#[69,69]})
 (v:Value) (ss:List Int) (hs:a.eval s=v) (j3:bY w 0 v ss) (g:Nat) (z:Int) (hx:a.eval x=.slice (some ⟨g,0,none⟩) 1 1) (hc:w.cell? ⟨g,0,none⟩=some (.int .i64 z)) (j8:ss.length≤1048577)
 (h:∀v' w',bY w' 0 v' (ss++[z])→w.grownBy w' v.ownBlock→zO w v.ownBlock v'.ownBlock→K (a.put o.dst v') w'):o.wp prog a w K Q:=by
 obtain⟨i0,hi,hz0,hz1,hz2⟩:=b6
 obtain⟨v',w',hr,h2,h3,h4⟩:=y6 (P:=prog) w 0 69 o.type 3 i0 (.int .i64 0) 1 8 underlying69 hi hz0 hz1 hz2 rfl (by decide) v ss.length _ j3 ⟨g,0,none⟩ 1 1 [.int .i64 z] rfl (fun j u hj=>by
  have hj0:j=0:=by have:=(List.getElem?_eq_some_iff.1 hj).1;simp at this;omega
  subst hj0
  simp at hj
  subst hj
  rw[add0];exact hc) (by intro u hu;simp at hu;subst hu;rfl) (by unfold maxLen;omega) (by omega) (Nat.zero_le _)
 refine Lib.wp_append_run w s x 69 69 ho v _ hs hx v' w' hr (h v' w' ?_ h3 h4)
 unfold bY
 rw[List.length_append,List.map_append]
 exact h2
abbrev iP (a b:Value):Obj:=.cells #[a,b,.bool true] 115 (0,0)
section
variable (q:Nat) (kv av:Value) (K:List ByteArray) (A:List Int) (w0:World)
def LayS (k:Nat):Prop:=k=q∨kv.ownBlock=some k∨av.ownBlock=some k
def LayW:Nat→World→Prop
 | 0,w=>jA w0 w
 | 1,w=>w.heap[q]? = some (iP kv av)∧bY w 0 av A∧Moved (LayS q kv av) w0 w
 | 2,w=>w.heap[q]? = some (iP kv av)∧Moved (LayS q kv av) w0 w
 | 3,w=>(w.cell? ⟨q,1,none⟩=some av∧w.frozen? ⟨q,1,none⟩=false)∧∃kv',w.heap[q]? = some (iP kv' av)∧yN w 0 kv' (K++[⟨#[]⟩])∧zO w0 kv.ownBlock kv'.ownBlock∧Moved (LayS q kv av) w0 w
 | _,w=>∃kv' av',w.heap[q]? = some (iP kv' av')∧yN w 0 kv' (K++[⟨#[]⟩])∧zO w0 kv.ownBlock kv'.ownBlock∧bY w 0 av' (A++[0])∧zO w0 av.ownBlock av'.ownBlock∧Moved (LayS q kv av) w0 w
def LayT:Nat→World→World→Prop
 | 0,w,w'=>Moved (fun k=>kv.ownBlock=some k) w w'
 | 1,w,w'=>bY w 0 av A∧Moved (fun k=>av.ownBlock=some k) w w'
 | _,w,w'=>(∃a b,w.heap[q]? = some (iP a b))∧Moved (fun k=>k=q) w w'
def LayK (p:Nat) (v:Value) (w:World):Prop:=p≠0∧(p≤2→yN w 0 v (K++[⟨#[]⟩])∧zO w0 kv.ownBlock v.ownBlock)
def LayA (p:Nat) (v:Value) (w:World):Prop:=2≤p∧(p≤3→bY w 0 v (A++[0])∧zO w0 av.ownBlock v.ownBlock)
def cY (m:Nat) (z:Value) (t:TypeId) (p:Nat) (v:Value) (w:World):Prop:=p≤m→∃g,v=.slice (some ⟨g,0,none⟩) 1 1∧w0.heap.size≤g∧w.heap[g]? = some (.cells #[z] t (0,0))
variable {q kv av K A w0}
theorem LayW.grew:∀(p:Nat) (w w':World),jA w w'→LayW q kv av K A w0 p w→LayW q kv av K A w0 p w'
 | 0,w,w',h,k=>jA.trans k h
 | 1,w,w',h,⟨k1,k2,k3⟩=>⟨h.heap k1,zC k2 h,k3.grew h⟩
 | 2,w,w',h,⟨k1,k3⟩=>⟨h.heap k1,k3.grew h⟩
 | 3,w,w',h,⟨k0,kv',k1,k2,k3,k4⟩=>⟨⟨h.cell k0.1,jE (h.heap k1) 1⟩,kv',h.heap k1,zC k2 h,k3,k4.grew h⟩
 | p+4,w,w',h,⟨kv',av',k1,k2,k3,k4,k5,k6⟩=>⟨kv',av',h.heap k1,zC k2 h,k3,zC k4 h,k5,k6.grew h⟩
theorem LayK.st:(∀p v w w',jA w w'→LayK kv K w0 p v w→LayK kv K w0 p v w')∧∀p v w w',LayT q kv av A p w w'→LayK kv K w0 p v w→LayK kv K w0 (p+1) v w':=by
 refine⟨fun p v w w' hg h=>⟨h.1,fun hp=>⟨zC (h.2 hp).1 hg,(h.2 hp).2⟩⟩,fun p v w w' ht h=>⟨by omega,fun hp=>?_⟩⟩
 match p,ht,h with
 | 0,_,h=>exact absurd rfl h.1
 | 1,ht,h=>
  obtain⟨h1,h2⟩:=h.2 (by omega)
  exact⟨ht.2.owns h1 (fun k hk hk2=>Y5 ht.1 h1 (by decide) hk2 hk),h2⟩
 | p+2,_,_=>omega
theorem LayA.st:(∀p v w w',jA w w'→LayA av A w0 p v w→LayA av A w0 p v w')∧∀p v w w',LayT q kv av A p w w'→LayA av A w0 p v w→LayA av A w0 (p+1) v w':=by
 refine⟨fun p v w w' hg h=>⟨h.1,fun hp=>⟨zC (h.2 hp).1 hg,(h.2 hp).2⟩⟩,fun p v w w' ht h=>⟨by have:=h.1;omega,fun hp=>?_⟩⟩
 match p,ht,h with
 | 0,_,h=>exact absurd h.1 (by omega)
 | 1,_,h=>exact absurd h.1 (by omega)
 | p+2,ht,h=>
  obtain⟨h1,h2⟩:=h.2 (by omega)
  obtain⟨⟨a,b,hq⟩,hm⟩:=ht
  exact⟨hm.owns h1 (fun k hk e=>zZ h1 hq (by decide) (by rw[hk,e])),h2⟩
theorem LayN0.st {z:Value} {t:TypeId}:(∀p v w w',jA w w'→cY w0 0 z t p v w→cY w0 0 z t p v w')∧∀p v w w',LayT q kv av A p w w'→cY w0 0 z t p v w→cY w0 0 z t (p+1) v w':=
 ⟨fun p v w w' hg h hp=>by obtain⟨g,e,h1,h2⟩:=h hp;exact⟨g,e,h1,hg.heap h2⟩,fun p v w w' ht h hp=>by omega⟩
theorem LayN1.st {z:Value} {t:TypeId} (hk:∀k,kv.ownBlock=some k→k < w0.heap.size):(∀p v w w',jA w w'→cY w0 1 z t p v w→cY w0 1 z t p v w')∧∀p v w w',LayT q kv av A p w w'→cY w0 1 z t p v w→cY w0 1 z t (p+1) v w':=by
 refine⟨fun p v w w' hg h hp=>by obtain⟨g,e,h1,h2⟩:=h hp;exact⟨g,e,h1,hg.heap h2⟩,fun p v w w' ht h hp=>?_⟩
 have hp0:p=0:=by omega
 subst hp0
 obtain⟨g,e,h1,h2⟩:=h (by omega)
 exact⟨g,e,h1,Moved.heap ht h2 (fun hq=>by have:=hk g hq;omega)⟩
end
/-! ### rows of one-cell elements: shifting, storing -/
theorem eE {w:World} {e:TypeId} {v:Value} {n:Nat} {xs:List Value} (h:w.ownsRow 0 e 1 v (n+1) xs):∃g c,v=.slice (some ⟨g,0,none⟩) (n+1) c∧n+1≤c∧c≤9223372036854775807:=by
 rcases h.2 with ⟨_,hn⟩|⟨g,cap,cur,e,_,_,hn,hm,_⟩
 ·omega
 ·exact⟨g,cap,e,hn,by unfold maxLen at hm;exact hm⟩
theorem iQ {w:World} {e:TypeId} {g n c:Nat} {xs:List Value} (h:w.ownsRow 0 e 1 (.slice (some ⟨g,0,none⟩) n c) n xs) (i:Nat) (u:Value):(w.setCell ⟨g,i,none⟩ u).ownsRow 0 e 1 (.slice (some ⟨g,0,none⟩) n c) n (xs.set i u):=by
 refine⟨by rw[List.length_set];exact h.1,?_⟩
 rcases h.2 with ⟨he,hn⟩|⟨g1,cap,cur,he,hb,hg,hn,hm,hs,ht⟩
 ·cases he
 ·cases he
  have hh:=heap_setCell_same w g i cur e u hg
  refine .inr ⟨g,c,_,rfl,hb,hh,hn,hm,by simpa using hs,?_⟩
  rw[Array.toList_setIfInBounds,List.take_set,ht]
theorem iR {α:Type} (L:List α) (off:Nat) (cs:List α) (n:Nat) (h:off+cs.length≤n) (hn:n≤L.length):(splice L off cs).take n=splice (L.take n) off cs:=by
 unfold splice
 have hl:(L.take off).length=off:=by rw[List.length_take];omega
 rw[List.take_append,hl,List.take_append,List.take_of_length_le (l:=L.take off) (by omega),List.take_of_length_le (l:=cs) (by omega),List.take_take,Nat.min_eq_left (by omega),List.drop_take,Nat.sub_sub]
theorem YQ {o:Oper} {a:Act} {K:Act→World→Prop} {Q:Exit→Act→World→Prop} (w:World) (d s:Operand) (dT:TypeId) (ho:o.op=.call {callee:=.builtin .copy,args:=#[d,s],argTypes:=#[dT,dT]}) (elem:TypeId) (hu:Tryz.prog.underlying dT=some (.slice elem)) (hsz:(Tryz.prog.info? elem).map (·.size)=some 1)
 (g n c:Nat) (xs:List Value) (j3:w.ownsRow 0 elem 1 (.slice (some ⟨g,0,none⟩) (n+1) c) (n+1) xs) (h1:∀v∈xs,v.oneCell'=true) (i:Nat) (hi:i≤n) (da:Option Addr) (dc sc:Nat) (hda:i < n→da=some ⟨g,i+1,none⟩)
 (hd:a.eval d=.slice da (n - i) dc) (hs:a.eval s=.slice (some ⟨g,i,none⟩) (n+1 - i) sc)
 (h:∀v w',w'.ownsRow 0 elem 1 (.slice (some ⟨g,0,none⟩) (n+1) c) (n+1) (splice xs (i+1) ((xs.drop i).take (n - i)))→Moved (fun k=>k=g) w w'→K (a.put o.dst v) w'):o.wp prog a w K Q:=by
 have hown0:=j3
 have hlx:xs.length=n+1:=by have:=j3.1;omega
 by_cases h0:n - i=0
 ·have hrun:=run_copy_none (P:=prog) w dT dT o.type elem da (some ⟨g,i,none⟩) (n - i) dc (n+1 - i) sc hu hsz (by rw[h0];exact Nat.min_zero _)
  have hx:splice xs (i+1) ((xs.drop i).take (n - i))=xs:=by
   unfold splice
   rw[h0,List.take_zero,List.nil_append];simp
  rw[hx] at h
  unfold Oper.wp
  simp[execOp,ho,resolve,invoke,builtin,hd,hs,hrun,Result.andThen]
  exact h _ w hown0 (Moved.refl _ w)
 ·have hda':=hda (by omega)
  subst hda'
  rcases j3.2 with ⟨he,hn⟩|⟨g1,cap,cur,he,hb,hg,hn,hm,hsize,ht⟩
  ·cases he
  ·cases he
   rw[Nat.mul_one] at ht hsize
   have hlc:((xs.drop i).take (n - i)).length=n - i:=by simp;omega
   have hcs:∀j v,((xs.drop i).take (n - i))[j]? = some v→w.cell? ((⟨g,i,none⟩:Addr).add j)=some v:=by
    intro j v hj
    have hjl:j < n - i:=by have:=(List.getElem?_eq_some_iff.1 hj).1;omega
    rw[List.getElem?_take,if_pos hjl,List.getElem?_drop] at hj
    have:=World.ownsRow.cells hown0 (g:=g) rfl (i+j) v hj
    rw[add0] at this
    rw[QI _ g i j rfl]
    rwa [Nat.zero_add] at this
   have hrun:=run_copy_row (P:=prog) w dT dT o.type elem g (i+1) (n - i) dc ⟨g,i,none⟩ (n+1 - i) sc cur elem ((xs.drop i).take (n - i)) hu hsz hg (by rw[hlc];exact (Nat.min_eq_right (by omega)).symm) hcs (by rw[hlc];omega) (fun v hv=>h1 v (List.mem_of_mem_drop (List.mem_of_mem_take hv)))
   unfold Oper.wp
   simp[execOp,ho,resolve,invoke,builtin,hd,hs,hrun,Result.andThen]
   refine h _ _ ⟨?_,.inr ⟨g,c,_,rfl,Nat.zero_le _,setRow_heap w g cur _ elem _ hg,hn,hm,?_,?_⟩⟩ ⟨rfl,rfl,rfl,by simp[World.setRow],fun k hk hne=>setRow_other w g k _ hne⟩
   ·rw[length_splice _ _ _ (by rw[hlc];omega)];omega
   ·simp
    omega
   ·rw[Nat.mul_one]
    have e:cur.toList.take (i+1)++(xs.drop i).take (n - i)++cur.toList.drop (i+1+((xs.drop i).take (n - i)).length)=splice cur.toList (i+1) ((xs.drop i).take (n - i)):=by unfold splice;rw[List.append_assoc]
    have e2:=iR cur.toList (i+1) ((xs.drop i).take (n - i)) (n+1) (by rw[hlc];omega) (by simp;omega)
    rw[ht] at e2
    simpa [List.append_assoc,splice] using e2
def CpW (wA:World) (g:Nat) (e:TypeId) (v:Value) (n:Nat) (xs:List Value):Nat→World→Prop
 | 0,w=>jA wA w
 | _,w=>w.ownsRow 0 e 1 v n xs∧Moved (fun k=>k=g) wA w
theorem CpW.grew {wA:World} {g:Nat} {e:TypeId} {v:Value} {n:Nat} {xs:List Value}:∀(p:Nat) (w w':World),jA w w'→CpW wA g e v n xs p w→CpW wA g e v n xs p w'
 | 0,w,w',h,k=>jA.trans k h
 | p+1,w,w',h,⟨k1,k2⟩=>⟨zC k1 h,k2.grew h⟩
theorem eF {w:World} {e:TypeId} {g n c:Nat} {xs:List Value} (h:w.ownsRow 0 e 1 (.slice (some ⟨g,0,none⟩) n c) n xs) {i:Nat} {x:Value} (hx:xs[i]? = some x):w.cell? ⟨g,i,none⟩=some x:=by
 obtain⟨g',e',hc⟩:=fY h hx
 cases e';exact hc
theorem eG {w:World} {e:TypeId} {g n c:Nat} {xs:List Value} (h:w.ownsRow 0 e 1 (.slice (some ⟨g,0,none⟩) n c) n xs) (i:Nat):w.frozen? ⟨g,i,none⟩=false:=by
 rcases h.2 with ⟨he,hn⟩|⟨g1,cap,cur,he,hb,hg,_⟩
 ·cases he
 ·cases he;exact jE hg i
def StW (wD:World) (gk ga kc ac n i:Nat) (e1 e2:TypeId) (KS AS:List Value) (x y:Value):Nat→World→Prop
 | 0,w=>jA wD w
 | 1,w=>w.ownsRow 0 e1 1 (.slice (some ⟨gk,0,none⟩) n kc) n (KS.set i x)∧w.ownsRow 0 e2 1 (.slice (some ⟨ga,0,none⟩) n ac) n AS∧Moved (fun k=>k=gk∨k=ga) wD w
 | _,w=>w.ownsRow 0 e1 1 (.slice (some ⟨gk,0,none⟩) n kc) n (KS.set i x)∧w.ownsRow 0 e2 1 (.slice (some ⟨ga,0,none⟩) n ac) n (AS.set i y)∧Moved (fun k=>k=gk∨k=ga) wD w
theorem StW.grew {wD:World} {gk ga kc ac n i:Nat} {e1 e2:TypeId} {KS AS:List Value} {x y:Value}:∀(p:Nat) (w w':World),jA w w'→StW wD gk ga kc ac n i e1 e2 KS AS x y p w→StW wD gk ga kc ac n i e1 e2 KS AS x y p w'
 | 0,w,w',h,k=>jA.trans k h
 | 1,w,w',h,⟨k1,k2,k3⟩=>⟨zC k1 h,zC k2 h,k3.grew h⟩
 | p+2,w,w',h,⟨k1,k2,k3⟩=>⟨zC k1 h,zC k2 h,k3.grew h⟩
theorem iS {α:Type} (f:α→Value) (L:List α) (z x:α) (n i:Nat) (hn:L.length=n) (hi:i≤n) :
 (splice ((L++[z]).map f) (i+1) ((((L++[z]).map f).drop i).take (n - i))).set i (f x)=(KI L i x).map f:=by
 have e1:(L++[z]).map f=L.map f++[f z]:=by simp
 have e2:((L.map f++[f z]).drop i).take (n - i)=(L.map f).drop i:=by
  rw[List.drop_append_of_le_length (by simp;omega),List.take_append_of_le_length (by simp;omega),List.take_of_length_le (by simp;omega)]
 rw[e1,e2,hU _ _ _ _ (by simp;omega)]
 simp[KI,List.map_take,List.map_drop]
theorem lay_any {w0:World} {p0:Nat} {S:Nat→Prop} {l:zR} (i:Nat) (k:ByteArray) (a:Int) (h:zV w0 p0 S l) (hi:i≤l.length) (hl:l.length≤1048577) :
 Calls prog 113 #[jF p0,.int .i64 i,.string k,.int .i64 a] w0 fun r w'=>r=.returned (.tuple #[])∧∃S',zV w' p0 S' (KI l i (k,a))∧JV S S' w0 w'∧Moved S w0 w':=by
 obtain⟨hS0,kv,av,hst,hok,hoa,hSk,hSa⟩:=h
 have HC:=zh (J1 hst)
 have HST:=zh hst
 obtain⟨Kl,hK⟩:∃K,ZB l=K:=⟨_,rfl⟩
 obtain⟨Al,hA⟩:∃A,KH l=A:=⟨_,rfl⟩
 rw[hK] at hok
 rw[hA] at hoa
 have HOK:=zh hok
 have HOA:=zh hoa
 have HLN:Hid (Kl.length≤1048577∧Al.length≤1048577):=by show _∧_;rw[← hK,← hA,v8,J3];exact⟨hl,hl⟩
 have HKB:Hid (∀k,kv.ownBlock=some k→k < w0.heap.size):=fun k hk=>JE hok hk
 have HSZ:∀(p:Nat) (w:World),LayW p0 kv av Kl Al w0 p w→w0.heap.size≤w.heap.size:=fun p w h=>by
  match p,h with
  | 0,h=>exact jA.size h
  | 1,h=>exact h.2.2.size
  | 2,h=>exact h.2.size
  | 3,⟨_,_,h⟩=>exact h.2.2.2.size
  | p+4,⟨_,_,h⟩=>exact h.2.2.2.2.2.size
 have HLL:=zh (And.intro hK hA)
 have HSS:=zh (And.intro hS0 (And.intro hSk hSa))
 have HIL:=zh (And.intro hi hl)
 obtain⟨n,hn⟩:∃n,l.length=n:=⟨_,rfl⟩
 have HN:Hid (Kl.length=n∧Al.length=n):=by show _∧_;rw[← hK,← hA,v8,J3];exact⟨hn,hn⟩
 have HIN:Hid (i≤n):=by show _≤_;rw[← hn];exact hi
 have HNL:Hid (n≤1048577):=by show _≤_;rw[← hn];exact hl
 have SZk:(Tryz.prog.info? 9).map (·.size)=some 1:=by obtain⟨i0,h1,_,h2,_⟩:=VC;rw[h1];simp[h2]
 have SZa:(Tryz.prog.info? 3).map (·.size)=some 1:=by obtain⟨i0,h1,_,h2,_⟩:=b6;rw[h1];simp[h2]
 clear hst hok hoa hS0 hSk hSa hK hA hi hl hn
 go_enter func113,ntmps113
 go_wp2_with fail
 refine jM [7,13,16,19] (LayW p0 kv av Kl Al w0) (fun _ w w'=>jA w w') ((fun p (_:Nat→Value)=>(LayT p0 kv av Al) p)) [[],[],[],[2],[2,3],[2,3,4],[],[2,3,4,5,6],[],[8],[8,9],[8,9,10],[],[2,3,4,5,6,7,8,9,10,11,12],[0,2,3,4,5,6,7,8,9,10,11,12,13],[0,2,3,4,5,6,7,8,9,10,11,12,13,14],[0,2,3,4,5,6,7,8,9,10,11,12,13,14,15],[0,1,2,3,4,5,6,7,8,9,10,11,12,13,14,15,16],[0,1,2,3,4,5,6,7,8,9,10,11,12,13,14,15,16,17],[0,1,2,3,4,5,6,7,8,9,10,11,12,13,14,15,16,17,18]] [[(9,1),(10,2),(11,3),(12,4),(13,5),(14,6),(15,7),(16,8),(17,9),(18,10),(19,11),(20,12),(21,13)],[(8,0),(10,2),(11,3),(12,4),(13,5),(14,6),(15,7),(16,8),(17,9),(18,10),(19,11),(20,12),(21,13),(22,14),(23,15)],[(8,0),(9,1),(14,6),(16,8),(17,9),(18,10),(19,11),(20,12)],[(8,0),(9,1),(10,2),(14,6),(16,8),(17,9),(18,10),(19,11),(20,12)],[(8,0),(9,1),(10,2),(11,3),(14,6),(16,8),(17,9),(18,10),(19,11),(20,12)],[(8,0),(9,1),(10,2),(11,3),(12,4),(14,6),(16,8),(17,9),(18,10),(19,11),(20,12)],[(8,0),(9,1),(10,2),(11,3),(12,4),(13,5),(16,8),(17,9),(18,10),(19,11),(20,12)],[(8,0),(9,1),(10,2),(11,3),(12,4),(13,5),(14,6),(16,8),(17,9),(18,10),(19,11),(20,12)],[(8,0),(9,1),(10,2),(11,3),(12,4),(13,5),(14,6),(15,7),(20,12)],[(8,0),(9,1),(10,2),(11,3),(12,4),(13,5),(14,6),(15,7),(16,8),(20,12)],[(8,0),(9,1),(10,2),(11,3),(12,4),(13,5),(14,6),(15,7),(16,8),(17,9),(20,12)],[(8,0),(9,1),(10,2),(11,3),(12,4),(13,5),(14,6),(15,7),(16,8),(17,9),(18,10),(20,12)],[(8,0),(9,1),(10,2),(11,3),(12,4),(13,5),(14,6),(15,7),(16,8),(17,9),(18,10),(19,11)],[(8,0),(9,1),(10,2),(11,3),(12,4),(13,5),(14,6),(15,7),(16,8),(17,9),(18,10),(19,11),(20,12)],[(8,0),(9,1),(10,2),(11,3),(12,4),(13,5),(14,6),(15,7),(16,8),(17,9),(18,10),(19,11),(20,12),(21,13)],[(8,0),(9,1),(10,2),(11,3),(12,4),(13,5),(14,6),(15,7),(16,8),(17,9),(18,10),(19,11),(20,12),(21,13),(22,14)],[(8,0),(9,1),(10,2),(11,3),(12,4),(13,5),(14,6),(15,7),(16,8),(17,9),(18,10),(19,11),(20,12),(21,13),(22,14),(23,15)],[(8,0),(9,1),(10,2),(11,3),(12,4),(13,5),(14,6),(15,7),(16,8),(17,9),(18,10),(19,11),(20,12),(21,13),(22,14),(23,15)],[(8,0),(9,1),(10,2),(11,3),(12,4),(13,5),(14,6),(15,7),(16,8),(17,9),(18,10),(19,11),(20,12),(21,13),(22,14),(23,15),(24,17)],[(8,0),(9,1),(10,2),(11,3),(12,4),(13,5),(14,6),(15,7),(16,8),(17,9),(18,10),(19,11),(20,12),(21,13),(22,14),(23,15),(24,17),(25,18)]] [(8,0),(9,1),(10,2),(11,3),(12,4),(13,5),(14,6),(15,7),(16,8),(17,9),(18,10),(19,11),(20,12),(21,13),(22,14),(23,15),(24,17),(25,18)]
  [IsP (jF p0),IsP (jF p0),IsP (jF p0),IsP (jF p0),IsP (jF p0),IsP (kv),cY w0 0 (.string ⟨#[]⟩) 9,LayK kv Kl w0,IsP (jF p0),IsP (jF p0),IsP (.pointer (some ⟨p0,1,none⟩)),IsP (av),cY w0 1 (.int .i64 0) 3,LayA av Al w0,IsP (jF p0),IsP (jF p0),fun _ _ _=>True,IsP (jF p0),IsP (.pointer (some ⟨p0,1,none⟩)),fun _ _ _=>True]
  zk (LayW.grew) ((jA.refl _).drew) zk zk ⟨jC,jC,jC,jC,jC,jC,q9 (LayN0.st),q9 (LayK.st),jC,jC,jC,jC,q9 (LayN1.st HKB.out),q9 (LayA.st),jC,jC,⟨fun _ _ _ _ _ h=>h,fun _ _ _ _ _ h=>h⟩,jC,jC,⟨fun _ _ _ _ _ h=>h,fun _ _ _ _ _ h=>h⟩,trivial⟩ rfl ?_ ?_
 ·intro y w2 hW hF
  simp only[zB,IsP,Nat.reduceAdd,List.length_cons,List.length_nil] at hF hW
  have h0:=hF.1
  have h1:=hF.2.1
  have h2:=hF.2.2.1
  have h3:=hF.2.2.2.1
  have h4:=hF.2.2.2.2.1
  have h5:=hF.2.2.2.2.2.1
  have h6:=hF.2.2.2.2.2.2.1
  have h7:=hF.2.2.2.2.2.2.2.1
  have h8:=hF.2.2.2.2.2.2.2.2.1
  have h9:=hF.2.2.2.2.2.2.2.2.2.1
  have h10:=hF.2.2.2.2.2.2.2.2.2.2.1
  have h11:=hF.2.2.2.2.2.2.2.2.2.2.2.1
  have h12:=hF.2.2.2.2.2.2.2.2.2.2.2.2.1
  have h13:=hF.2.2.2.2.2.2.2.2.2.2.2.2.2.1
  have h14:=hF.2.2.2.2.2.2.2.2.2.2.2.2.2.2.1
  have h15:=hF.2.2.2.2.2.2.2.2.2.2.2.2.2.2.2.1
  have h17:=hF.2.2.2.2.2.2.2.2.2.2.2.2.2.2.2.2.2.1
  have h18:=hF.2.2.2.2.2.2.2.2.2.2.2.2.2.2.2.2.2.2.1
  clear hF
  simp only[jB,Act.put,zq1,zq2,zq3,zq4,zq5]
  simp only[h0,h1,h2,h3,h4,h5,h8,h9,h10,h11,h14,h15,h17,h18]
  clear h0 h1 h2 h3 h4 h5 h8 h9 h10 h11 h14 h15 h17 h18
  clear h7 h13 h6 h12
  obtain⟨kv1,av1,hst1,hok1,hnk1,hoa1,hna1,hm1⟩:=hW
  have HNN:Hid (Kl.length=n∧Al.length=n):=HN.out
  have hrk:w2.ownsRow 0 9 1 kv1 (n+1) ((Kl++[(⟨#[]⟩:ByteArray)]).map Value.string):=by have h:=hok1;unfold yN at h;rw[List.length_append,HNN.out.1] at h;exact h
  have hra:w2.ownsRow 0 3 1 av1 (n+1) ((Al++[0]).map (Value.int .i64)):=by have h:=hoa1;unfold bY at h;rw[List.length_append,HNN.out.2] at h;exact h
  clear hok1 hoa1
  obtain⟨gk,kc,rfl,hkc,hkm⟩:=eE hrk
  obtain⟨ga,ac,rfl,hac,ham⟩:=eE hra
  have HM1:=zh (And.intro hnk1 (And.intro hna1 hm1))
  have HRk:=zh hrk
  have HRa:=zh hra
  have HST1:=zh hst1
  have HBk:Hid (w2.cell? ⟨p0,0,none⟩=some (.slice (some ⟨gk,0,none⟩) (n+1) kc)):=jI hst1 0 _ rfl
  have HBa:Hid (w2.cell? ⟨p0,1,none⟩=some (.slice (some ⟨ga,0,none⟩) (n+1) ac)):=jI hst1 1 _ rfl
  have HNE:Hid (gk≠p0∧ga≠p0∧gk≠ga):=⟨fun e=>zZ hrk hst1 (by decide) (by rw[e];rfl),fun e=>zZ hra hst1 (by decide) (by rw[e];rfl),fun e=>Y5 hrk hra (by decide) rfl (by rw[e];rfl)⟩
  have hin:=HIN.out
  have hlm:=HNL.out
  have hii:(i:Int)+1≤kc:=by omega
  have hia:(i:Int)+1≤ac:=by omega
  have hiu:(i:Int)≤n+1:=by omega
  have hil:(i:Int)≤n:=by omega
  have hki:¬kc=i:=by omega
  have hai:¬ac=i:=by omega
  have hwi:IntKind.i64.wrap ((i:Int)+1)=(i:Int)+1:=by rw[IntKind.wrap_i64];omega
  clear hnk1 hna1 hm1 hst1 hrk hra
  generalize w2=wB at *
  go_wp2_with fail
  refine jM [13] (CpW wB gk 9 (.slice (some ⟨gk,0,none⟩) (n+1) kc) (n+1) (splice ((Kl++[(⟨#[]⟩:ByteArray)]).map Value.string) (i+1) ((((Kl++[(⟨#[]⟩:ByteArray)]).map Value.string).drop i).take (n - i)))) (fun _ w w'=>jA w w') ((fun p (_:Nat→Value)=>(fun _ _ _=>True) p)) [[],[0],[0,1],[0,1,2],[],[4],[0,1,2,3,4,5],[],[7],[7,8],[7,8,9],[],[7,8,9,10,11],[0,1,2,3,4,5,6,7,8,9,10,11,12]] [[(30,4),(31,5),(33,7),(34,8),(35,9),(36,10),(37,11),(38,12)],[(26,0),(30,4),(31,5),(33,7),(34,8),(35,9),(36,10),(37,11),(38,12)],[(26,0),(27,1),(30,4),(31,5),(33,7),(34,8),(35,9),(36,10),(37,11),(38,12)],[(26,0),(27,1),(28,2),(30,4),(31,5),(33,7),(34,8),(35,9),(36,10),(37,11),(38,12)],[(26,0),(27,1),(28,2),(29,3),(33,7),(34,8),(35,9),(36,10),(37,11),(38,12)],[(26,0),(27,1),(28,2),(29,3),(30,4),(33,7),(34,8),(35,9),(36,10),(37,11),(38,12)],[(26,0),(27,1),(28,2),(29,3),(30,4),(31,5),(33,7),(34,8),(35,9),(36,10),(37,11),(38,12)],[(26,0),(27,1),(28,2),(29,3),(30,4),(31,5),(32,6),(37,11)],[(26,0),(27,1),(28,2),(29,3),(30,4),(31,5),(32,6),(33,7),(37,11)],[(26,0),(27,1),(28,2),(29,3),(30,4),(31,5),(32,6),(33,7),(34,8),(37,11)],[(26,0),(27,1),(28,2),(29,3),(30,4),(31,5),(32,6),(33,7),(34,8),(35,9),(37,11)],[(26,0),(27,1),(28,2),(29,3),(30,4),(31,5),(32,6),(33,7),(34,8),(35,9),(36,10)],[(26,0),(27,1),(28,2),(29,3),(30,4),(31,5),(32,6),(33,7),(34,8),(35,9),(36,10),(37,11)],[(26,0),(27,1),(28,2),(29,3),(30,4),(31,5),(32,6),(33,7),(34,8),(35,9),(36,10),(37,11),(38,12)]] [(26,0),(27,1),(28,2),(29,3),(30,4),(31,5),(32,6),(33,7),(34,8),(35,9),(36,10),(37,11),(38,12),(39,13)]
   [IsP (jF p0),IsP (jF p0),IsP (jF p0),IsP (.slice (some ⟨gk,0,none⟩) (n+1) kc),IsP (.int .i64 i),IsP (.int .i64 (i+1)),fun _ v _=>∃(da:Option Addr) (dc:Nat),v=.slice da (n - i) dc∧(i < n→da=some ⟨gk,i+1,none⟩),IsP (jF p0),IsP (jF p0),IsP (jF p0),IsP (.slice (some ⟨gk,0,none⟩) (n+1) kc),IsP (.int .i64 i),IsP (.slice (some ⟨gk,i,none⟩) (n+1 - i) (kc - i)),fun _ _ _=>True]
   zk (CpW.grew) ((jA.refl _).drew) zk zk ⟨jC,jC,jC,jC,jC,jC,q9 (⟨fun _ _ _ _ _ h=>h,fun _ _ _ _ _ h=>h⟩),jC,jC,jC,jC,jC,jC,⟨fun _ _ _ _ _ h=>h,fun _ _ _ _ _ h=>h⟩,trivial⟩ rfl ?_ ?_
  ·intro y w2 hW hF
   simp only[zB,IsP,Nat.reduceAdd,List.length_cons,List.length_nil] at hF hW
   have h0:=hF.1
   have h1:=hF.2.1
   have h2:=hF.2.2.1
   have h3:=hF.2.2.2.1
   have h4:=hF.2.2.2.2.1
   have h5:=hF.2.2.2.2.2.1
   have h6:=hF.2.2.2.2.2.2.1
   have h7:=hF.2.2.2.2.2.2.2.1
   have h8:=hF.2.2.2.2.2.2.2.2.1
   have h9:=hF.2.2.2.2.2.2.2.2.2.1
   have h10:=hF.2.2.2.2.2.2.2.2.2.2.1
   have h11:=hF.2.2.2.2.2.2.2.2.2.2.2.1
   have h12:=hF.2.2.2.2.2.2.2.2.2.2.2.2.1
   clear hF
   simp only[jB,Act.put,zq1,zq2,zq3,zq4,zq5]
   simp only[h0,h1,h2,h3,h4,h5,h7,h8,h9,h10,h11,h12]
   clear h0 h1 h2 h3 h4 h5 h7 h8 h9 h10 h11 h12
   obtain⟨hrk2,hmk2⟩:=hW
   clear h6
   have HMk:=zh hmk2
   have HST2:Hid (w2.heap[p0]? = some (iP (.slice (some ⟨gk,0,none⟩) (n+1) kc) (.slice (some ⟨ga,0,none⟩) (n+1) ac))):=hmk2.heap HST1.out (fun e=>HNE.out.1 e.symm)
   have HRa2:Hid (w2.ownsRow 0 3 1 (.slice (some ⟨ga,0,none⟩) (n+1) ac) (n+1) ((Al++[0]).map (Value.int .i64))):=hmk2.owns HRa.out (fun q hq e=>by cases hq;exact HNE.out.2.2 e.symm)
   have HRk2:=zh hrk2
   clear hrk2 hmk2 HRk HRa HBk HBa HST1
   have HRk:=zh HRk2.out
   have HRa:=zh HRa2.out
   have HST1:=zh HST2.out
   clear HRk2 HRa2 HST2
   have HBk:Hid (w2.cell? ⟨p0,0,none⟩=some (.slice (some ⟨gk,0,none⟩) (n+1) kc)):=jI HST1.out 0 _ rfl
   have HBa:Hid (w2.cell? ⟨p0,1,none⟩=some (.slice (some ⟨ga,0,none⟩) (n+1) ac)):=jI HST1.out 1 _ rfl
   generalize w2=wC at *
   go_wp2_with fail
   refine jM [13] (CpW wC ga 3 (.slice (some ⟨ga,0,none⟩) (n+1) ac) (n+1) (splice ((Al++[0]).map (Value.int .i64)) (i+1) ((((Al++[0]).map (Value.int .i64)).drop i).take (n - i)))) (fun _ w w'=>jA w w') ((fun p (_:Nat→Value)=>(fun _ _ _=>True) p)) [[],[0],[0,1],[0,1,2],[],[4],[0,1,2,3,4,5],[],[7],[7,8],[7,8,9],[],[7,8,9,10,11],[0,1,2,3,4,5,6,7,8,9,10,11,12]] [[(44,4),(45,5),(47,7),(48,8),(49,9),(50,10),(51,11),(52,12)],[(40,0),(44,4),(45,5),(47,7),(48,8),(49,9),(50,10),(51,11),(52,12)],[(40,0),(41,1),(44,4),(45,5),(47,7),(48,8),(49,9),(50,10),(51,11),(52,12)],[(40,0),(41,1),(42,2),(44,4),(45,5),(47,7),(48,8),(49,9),(50,10),(51,11),(52,12)],[(40,0),(41,1),(42,2),(43,3),(47,7),(48,8),(49,9),(50,10),(51,11),(52,12)],[(40,0),(41,1),(42,2),(43,3),(44,4),(47,7),(48,8),(49,9),(50,10),(51,11),(52,12)],[(40,0),(41,1),(42,2),(43,3),(44,4),(45,5),(47,7),(48,8),(49,9),(50,10),(51,11),(52,12)],[(40,0),(41,1),(42,2),(43,3),(44,4),(45,5),(46,6),(51,11)],[(40,0),(41,1),(42,2),(43,3),(44,4),(45,5),(46,6),(47,7),(51,11)],[(40,0),(41,1),(42,2),(43,3),(44,4),(45,5),(46,6),(47,7),(48,8),(51,11)],[(40,0),(41,1),(42,2),(43,3),(44,4),(45,5),(46,6),(47,7),(48,8),(49,9),(51,11)],[(40,0),(41,1),(42,2),(43,3),(44,4),(45,5),(46,6),(47,7),(48,8),(49,9),(50,10)],[(40,0),(41,1),(42,2),(43,3),(44,4),(45,5),(46,6),(47,7),(48,8),(49,9),(50,10),(51,11)],[(40,0),(41,1),(42,2),(43,3),(44,4),(45,5),(46,6),(47,7),(48,8),(49,9),(50,10),(51,11),(52,12)]] [(40,0),(41,1),(42,2),(43,3),(44,4),(45,5),(46,6),(47,7),(48,8),(49,9),(50,10),(51,11),(52,12),(53,13)]
    [IsP (jF p0),IsP (jF p0),IsP (.pointer (some ⟨p0,1,none⟩)),IsP (.slice (some ⟨ga,0,none⟩) (n+1) ac),IsP (.int .i64 i),IsP (.int .i64 (i+1)),fun _ v _=>∃(da:Option Addr) (dc:Nat),v=.slice da (n - i) dc∧(i < n→da=some ⟨ga,i+1,none⟩),IsP (jF p0),IsP (jF p0),IsP (.pointer (some ⟨p0,1,none⟩)),IsP (.slice (some ⟨ga,0,none⟩) (n+1) ac),IsP (.int .i64 i),IsP (.slice (some ⟨ga,i,none⟩) (n+1 - i) (ac - i)),fun _ _ _=>True]
    zk (CpW.grew) ((jA.refl _).drew) zk zk ⟨jC,jC,jC,jC,jC,jC,q9 (⟨fun _ _ _ _ _ h=>h,fun _ _ _ _ _ h=>h⟩),jC,jC,jC,jC,jC,jC,⟨fun _ _ _ _ _ h=>h,fun _ _ _ _ _ h=>h⟩,trivial⟩ rfl ?_ ?_
   ·intro y w2 hW hF
    simp only[zB,IsP,Nat.reduceAdd,List.length_cons,List.length_nil] at hF hW
    have h0:=hF.1
    have h1:=hF.2.1
    have h2:=hF.2.2.1
    have h3:=hF.2.2.2.1
    have h4:=hF.2.2.2.2.1
    have h5:=hF.2.2.2.2.2.1
    have h6:=hF.2.2.2.2.2.2.1
    have h7:=hF.2.2.2.2.2.2.2.1
    have h8:=hF.2.2.2.2.2.2.2.2.1
    have h9:=hF.2.2.2.2.2.2.2.2.2.1
    have h10:=hF.2.2.2.2.2.2.2.2.2.2.1
    have h11:=hF.2.2.2.2.2.2.2.2.2.2.2.1
    have h12:=hF.2.2.2.2.2.2.2.2.2.2.2.2.1
    clear hF
    simp only[jB,Act.put,zq1,zq2,zq3,zq4,zq5]
    simp only[h0,h1,h2,h3,h4,h5,h7,h8,h9,h10,h11,h12]
    clear h0 h1 h2 h3 h4 h5 h7 h8 h9 h10 h11 h12
    obtain⟨hra3,hma3⟩:=hW
    clear h6
    have HMa:=zh hma3
    have HST2:Hid (w2.heap[p0]? = some (iP (.slice (some ⟨gk,0,none⟩) (n+1) kc) (.slice (some ⟨ga,0,none⟩) (n+1) ac))):=hma3.heap HST1.out (fun e=>HNE.out.2.1 e.symm)
    have HRk2:Hid (w2.ownsRow 0 9 1 (.slice (some ⟨gk,0,none⟩) (n+1) kc) (n+1) (splice ((Kl++[(⟨#[]⟩:ByteArray)]).map Value.string) (i+1) ((((Kl++[(⟨#[]⟩:ByteArray)]).map Value.string).drop i).take (n - i)))):=hma3.owns HRk.out (fun q hq e=>by cases hq;exact HNE.out.2.2 e)
    have HRa2:=zh hra3
    clear hra3 hma3 HRk HRa HBk HBa HST1
    have HRk:=zh HRk2.out
    have HRa:=zh HRa2.out
    have HST1:=zh HST2.out
    clear HRk2 HRa2 HST2
    have HBk:Hid (w2.cell? ⟨p0,0,none⟩=some (.slice (some ⟨gk,0,none⟩) (n+1) kc)):=jI HST1.out 0 _ rfl
    have HBa:Hid (w2.cell? ⟨p0,1,none⟩=some (.slice (some ⟨ga,0,none⟩) (n+1) ac)):=jI HST1.out 1 _ rfl
    obtain⟨u1,hu1⟩:∃u,(splice ((Kl++[(⟨#[]⟩:ByteArray)]).map Value.string) (i+1) ((((Kl++[(⟨#[]⟩:ByteArray)]).map Value.string).drop i).take (n - i)))[i]? = some u:=⟨_,List.getElem?_eq_getElem (by have h:=HRk.out.1;omega)⟩
    obtain⟨u2,hu2⟩:∃u,(splice ((Al++[0]).map (Value.int .i64)) (i+1) ((((Al++[0]).map (Value.int .i64)).drop i).take (n - i)))[i]? = some u:=⟨_,List.getElem?_eq_getElem (by have h:=HRa.out.1;omega)⟩
    have HU:=zh (And.intro hu1 hu2)
    clear hu1 hu2
    generalize w2=wD at *
    skip
    have hilt:(i:Int) < n+1:=by omega
    go_wp2_with fail
    refine jM [13,15] (StW wD gk ga kc ac (n+1) i 9 3 (splice ((Kl++[(⟨#[]⟩:ByteArray)]).map Value.string) (i+1) ((((Kl++[(⟨#[]⟩:ByteArray)]).map Value.string).drop i).take (n - i))) (splice ((Al++[0]).map (Value.int .i64)) (i+1) ((((Al++[0]).map (Value.int .i64)).drop i).take (n - i))) (.string k) (.int .i64 a)) (fun _ w w'=>jA w w') ((fun p (_:Nat→Value)=>(fun _ _ _=>True) p)) [[],[0],[0,1],[0,1,2],[],[],[5],[5,6],[5,6,7],[],[],[],[0,1,2,3,4,5,6,7,8,10],[0,1,2,3,4,5,6,7,8,10,12],[0,1,2,3,4,5,6,7,8,9,10,11,12,13],[0,1,2,3,4,5,6,7,8,9,10,11,12,13,14]] [[(58,4),(59,5),(60,6),(61,7),(62,8),(63,9),(64,10),(65,11)],[(54,0),(58,4),(59,5),(60,6),(61,7),(62,8),(63,9),(64,10),(65,11)],[(54,0),(55,1),(58,4),(59,5),(60,6),(61,7),(62,8),(63,9),(64,10),(65,11)],[(54,0),(55,1),(56,2),(58,4),(59,5),(60,6),(61,7),(62,8),(63,9),(64,10),(65,11)],[(54,0),(55,1),(56,2),(57,3),(59,5),(60,6),(61,7),(62,8),(63,9),(64,10),(65,11)],[(54,0),(55,1),(56,2),(57,3),(58,4),(63,9),(64,10),(65,11)],[(54,0),(55,1),(56,2),(57,3),(58,4),(59,5),(63,9),(64,10),(65,11)],[(54,0),(55,1),(56,2),(57,3),(58,4),(59,5),(60,6),(63,9),(64,10),(65,11)],[(54,0),(55,1),(56,2),(57,3),(58,4),(59,5),(60,6),(61,7),(63,9),(64,10),(65,11)],[(54,0),(55,1),(56,2),(57,3),(58,4),(59,5),(60,6),(61,7),(62,8),(64,10),(65,11),(66,12)],[(54,0),(55,1),(56,2),(57,3),(58,4),(59,5),(60,6),(61,7),(62,8),(63,9),(65,11)],[(54,0),(55,1),(56,2),(57,3),(58,4),(59,5),(60,6),(61,7),(62,8),(63,9),(64,10),(66,12)],[(54,0),(55,1),(56,2),(57,3),(58,4),(59,5),(60,6),(61,7),(62,8),(63,9),(64,10),(65,11)],[(54,0),(55,1),(56,2),(57,3),(58,4),(59,5),(60,6),(61,7),(62,8),(63,9),(64,10),(65,11),(66,12)],[(54,0),(55,1),(56,2),(57,3),(58,4),(59,5),(60,6),(61,7),(62,8),(63,9),(64,10),(65,11),(66,12)],[(54,0),(55,1),(56,2),(57,3),(58,4),(59,5),(60,6),(61,7),(62,8),(63,9),(64,10),(65,11),(66,12),(67,14)]] [(54,0),(55,1),(56,2),(57,3),(58,4),(59,5),(60,6),(61,7),(62,8),(63,9),(64,10),(65,11),(66,12),(67,14)]
     [IsP (jF p0),IsP (jF p0),IsP (jF p0),IsP (.slice (some ⟨gk,0,none⟩) (n+1) kc),IsP (.int .i64 i),IsP (jF p0),IsP (jF p0),IsP (.pointer (some ⟨p0,1,none⟩)),IsP (.slice (some ⟨ga,0,none⟩) (n+1) ac),IsP (.int .i64 i),IsP (.string k),IsP (.int .i64 a),IsP (.pointer (some ⟨gk,i,none⟩)),fun _ _ _=>True,IsP (.pointer (some ⟨ga,i,none⟩)),fun _ _ _=>True]
     zk (StW.grew) ((jA.refl _).drew) zk zk ⟨jC,jC,jC,jC,jC,jC,jC,jC,jC,jC,jC,jC,jC,⟨fun _ _ _ _ _ h=>h,fun _ _ _ _ _ h=>h⟩,jC,⟨fun _ _ _ _ _ h=>h,fun _ _ _ _ _ h=>h⟩,trivial⟩ rfl ?_ ?_
    ·intro y w2 hW hF
     simp only[zB,IsP,Nat.reduceAdd,List.length_cons,List.length_nil] at hF hW
     have h0:=hF.1
     have h1:=hF.2.1
     have h2:=hF.2.2.1
     have h3:=hF.2.2.2.1
     have h4:=hF.2.2.2.2.1
     have h5:=hF.2.2.2.2.2.1
     have h6:=hF.2.2.2.2.2.2.1
     have h7:=hF.2.2.2.2.2.2.2.1
     have h8:=hF.2.2.2.2.2.2.2.2.1
     have h9:=hF.2.2.2.2.2.2.2.2.2.1
     have h10:=hF.2.2.2.2.2.2.2.2.2.2.1
     have h11:=hF.2.2.2.2.2.2.2.2.2.2.2.1
     have h12:=hF.2.2.2.2.2.2.2.2.2.2.2.2.1
     have h14:=hF.2.2.2.2.2.2.2.2.2.2.2.2.2.2.1
     clear hF
     simp only[jB,Act.put,zq1,zq2,zq3,zq4,zq5]
     simp only[h0,h1,h2,h3,h4,h5,h6,h7,h8,h9,h10,h11,h12,h14]
     clear h0 h1 h2 h3 h4 h5 h6 h7 h8 h9 h10 h11 h12 h14
     obtain⟨hrk5,hra5,hm5⟩:=hW
     skip
     have HF:Hid (∃S',zV w2 p0 S' (KI l i (k,a))∧JV S S' w0 w2∧Moved S w0 w2):=by
      obtain⟨n1,n2,m1⟩:=HM1.out
      obtain⟨e1,e2,e3⟩:=HNE.out
      have hs1:=m1.size
      have hs2:=HMk.out.size
      have hs3:=HMa.out.size
      have hs4:=hm5.size
      have hlk:=JE hrk5 (g:=gk) rfl
      have hla:=JE hra5 (g:=ga) rfl
      have hok:yN w2 0 (.slice (some ⟨gk,0,none⟩) (n+1) kc) (ZB (KI l i (k,a))):=by
       unfold yN
       rw[oW,HLL.out.1,← iS Value.string Kl ⟨#[]⟩ k n i HN.out.1 HIN.out,ZQ,HN.out.1]
       exact hrk5
      have hoa:bY w2 0 (.slice (some ⟨ga,0,none⟩) (n+1) ac) (KH (KI l i (k,a))):=by
       unfold bY
       rw[rT,HLL.out.2,← iS (Value.int .i64) Al 0 a n i HN.out.2 HIN.out,ZQ,HN.out.2]
       exact hra5
      refine⟨fun b=>b=p0∨b=gk∨b=ga,⟨.inl rfl,_,_,hm5.heap HST1.out (fun e=>e.elim (fun e=>e1 e.symm) (fun e=>e2 e.symm)),hok,hoa,fun g hg=>.inr (.inl (by cases hg;rfl)),fun g hg=>.inr (.inr (by cases hg;rfl))⟩,fun b hb=>?_,?_⟩
      ·rcases hb with rfl|rfl|rfl
       ·exact .inl HSS.out.1
       ·rcases n1 _ rfl with h|h
        ·exact .inl (HSS.out.2.1 _ h)
        ·exact .inr ⟨h,hlk⟩
       ·rcases n2 _ rfl with h|h
        ·exact .inl (HSS.out.2.2 _ h)
        ·exact .inr ⟨h,hla⟩
      ·have mS:Moved S w0 wB:=m1.mono (fun j _ hj=>by
        rcases hj with rfl|hj|hj
        ·exact HSS.out.1
        ·exact HSS.out.2.1 _ hj
        ·exact HSS.out.2.2 _ hj)
       have hgk:gk < w0.heap.size→S gk:=fun h=>(n1 gk rfl).elim (fun e=>HSS.out.2.1 _ e) (fun e=>by omega)
       have hga:ga < w0.heap.size→S ga:=fun h=>(n2 ga rfl).elim (fun e=>HSS.out.2.2 _ e) (fun e=>by omega)
       exact ((mS.trans HMk.out (fun j hj e=>e ▸ hgk (e ▸ hj))).trans HMa.out (fun j hj e=>e ▸ hga (e ▸ hj))).trans hm5 (fun j hj e=>e.elim (fun e=>e ▸ hgk (e ▸ hj)) (fun e=>e ▸ hga (e ▸ hj)))
     clear hrk5 hra5 hm5
     go_wp2
     go_end0
     exact⟨rfl,HF.out⟩
    refine⟨zqd,zqd,zqd,?_⟩
    refine⟨?_,?_⟩
    ·refine jH 0 0 ?_
     intro y w2 p hlo hhi hW hD K hK
     obtain rfl:p=0:=by omega
     have dd:=jA.cell hW HBk.out
     exact zqr
    refine⟨zqd,zqd,zqd,zqd,?_⟩
    refine⟨?_,?_⟩
    ·refine jH 0 0 ?_
     intro y w2 p hlo hhi hW hD K hK
     obtain rfl:p=0:=by omega
     have dd:=jA.cell hW HBa.out
     exact zqr
    refine⟨zqd,zqd,zqd,zqd,?_⟩
    refine⟨?_,?_⟩
    ·refine jN 0 rfl ?_
     intro y w2 hW hD K hK
     have hr0:=zC HRk.out hW
     have dd:=eF hr0 HU.out.1
     have ff:=eG hr0 i
     simp only[jV,zq4,zq5,IsP] at hD
     have h0:=hD.1
     have h1:=hD.2.1
     have h2:=hD.2.2.1
     have h3:=hD.2.2.2.1
     have h4:=hD.2.2.2.2.1
     have h5:=hD.2.2.2.2.2.1
     have h6:=hD.2.2.2.2.2.2.1
     have h7:=hD.2.2.2.2.2.2.2.1
     have h8:=hD.2.2.2.2.2.2.2.2.1
     have h10:=hD.2.2.2.2.2.2.2.2.2.1
     have h12:=hD.2.2.2.2.2.2.2.2.2.2.1
     clear hD
     generalize hAA:jB y _ _=AA at hK⊢
     simp only[jB,Act.put,zq1,zq2,zq3,zq4,zq5,IsP] at hAA
     subst hAA
     simp only[zq4,zq5,IsP] at hK
     simp only[h0,h1,h2,h3,h4,h5,h6,h7,h8,h10,h12] at hK⊢
     clear h0 h1 h2 h3 h4 h5 h6 h7 h8 h10 h12
     refine jL ?_
     go_simp
     exact hK _ undef _ rfl trivial ⟨iQ hr0 i (.string k),(zK w2 gk i _).owns (zC HRa.out hW) (fun q hq e=>by cases hq;exact HNE.out.2.2 e.symm),(Moved.of_grew hW).trans (zK w2 gk i _) (fun _ _ h=>.inl h)⟩ trivial
    refine⟨zqd,?_⟩
    refine⟨?_,?_⟩
    ·refine jN 1 rfl ?_
     intro y w2 hW hD K hK
     have hr0:=hW.2.1
     have dd:=eF hr0 HU.out.2
     have ff:=eG hr0 i
     simp only[jV,zq4,zq5,IsP] at hD
     have h0:=hD.1
     have h1:=hD.2.1
     have h2:=hD.2.2.1
     have h3:=hD.2.2.2.1
     have h4:=hD.2.2.2.2.1
     have h5:=hD.2.2.2.2.2.1
     have h6:=hD.2.2.2.2.2.2.1
     have h7:=hD.2.2.2.2.2.2.2.1
     have h8:=hD.2.2.2.2.2.2.2.2.1
     have h9:=hD.2.2.2.2.2.2.2.2.2.1
     have h10:=hD.2.2.2.2.2.2.2.2.2.2.1
     have h11:=hD.2.2.2.2.2.2.2.2.2.2.2.1
     have h12:=hD.2.2.2.2.2.2.2.2.2.2.2.2.1
     have h14:=hD.2.2.2.2.2.2.2.2.2.2.2.2.2.2.1
     clear hD
     generalize hAA:jB y _ _=AA at hK⊢
     simp only[jB,Act.put,zq1,zq2,zq3,zq4,zq5,IsP] at hAA
     subst hAA
     simp only[zq4,zq5,IsP] at hK
     simp only[h0,h1,h2,h3,h4,h5,h6,h7,h8,h9,h10,h11,h12,h14] at hK⊢
     clear h0 h1 h2 h3 h4 h5 h6 h7 h8 h9 h10 h11 h12 h14
     refine jL ?_
     go_simp
     exact hK _ undef _ rfl trivial ⟨(zK w2 ga i _).owns hW.1 (fun q hq e=>by cases hq;exact HNE.out.2.2 e),iQ hr0 i (.int .i64 a),hW.2.2.trans (zK w2 ga i _) (fun _ _ h=>.inr h)⟩ trivial
    trivial
   refine⟨zqd,zqd,zqd,?_⟩
   refine⟨?_,?_⟩
   ·refine jH 0 0 ?_
    intro y w2 p hlo hhi hW hD K hK
    obtain rfl:p=0:=by omega
    have dd:=jA.cell hW HBa.out
    exact zqr
   refine⟨zqd,zqd,?_⟩
   refine⟨?_,?_⟩
   ·refine jH 0 0 ?_
    intro y w2 p hlo hhi hW hD K hK
    simp only[jV,zq4,zq5,IsP] at hD
    generalize hAA:jB y _ _=AA at hK⊢
    simp only[jB,Act.put,zq1,zq2,zq3,zq4,zq5,IsP] at hAA
    subst hAA
    simp only[zq4,zq5,IsP] at hK
    simp only[hD] at hK⊢
    clear hD
    refine jL ?_
    go_simp
    exact hK _ _ _ rfl (jA.refl _) ⟨_,_,rfl,fun h=>if_neg (by omega)⟩
   refine⟨zqd,zqd,zqd,?_⟩
   refine⟨?_,?_⟩
   ·refine jH 0 0 ?_
    intro y w2 p hlo hhi hW hD K hK
    obtain rfl:p=0:=by omega
    have dd:=jA.cell hW HBa.out
    exact zqr
   refine⟨zqd,zqd,?_⟩
   refine⟨?_,?_⟩
   ·refine jN 0 rfl ?_
    intro y w2 hW hD K hK
    simp only[jV,zq4,zq5,IsP] at hD
    have h0:=hD.1
    have h1:=hD.2.1
    have h2:=hD.2.2.1
    have h3:=hD.2.2.2.1
    have h4:=hD.2.2.2.2.1
    have h5:=hD.2.2.2.2.2.1
    have h6:=hD.2.2.2.2.2.2.1
    have h7:=hD.2.2.2.2.2.2.2.1
    have h8:=hD.2.2.2.2.2.2.2.2.1
    have h9:=hD.2.2.2.2.2.2.2.2.2.1
    have h10:=hD.2.2.2.2.2.2.2.2.2.2.1
    have h11:=hD.2.2.2.2.2.2.2.2.2.2.2.1
    have h12:=hD.2.2.2.2.2.2.2.2.2.2.2.2.1
    clear hD
    generalize hAA:jB y _ _=AA at hK⊢
    simp only[jB,Act.put,zq1,zq2,zq3,zq4,zq5,IsP] at hAA
    subst hAA
    simp only[zq4,zq5,IsP] at hK
    simp only[h0,h1,h2,h3,h4,h5,h7,h8,h9,h10,h11,h12] at hK⊢
    clear h0 h1 h2 h3 h4 h5 h7 h8 h9 h10 h11 h12
    obtain⟨da6,dc6,e6,hda6⟩:=h6
    rw[e6] at hK⊢
    clear e6
    refine jL ?_
    refine YQ w2 _ _ 69 rfl 3 underlying69 SZa ga n ac ((Al++[0]).map (Value.int .i64)) (zC HRa.out hW) (by intro u hu;obtain⟨_,_,rfl⟩:=List.mem_map.1 hu;rfl) i HIN.out _ _ _ hda6 rfl rfl ?_
    intro v w' ho hm
    exact hK _ _ _ rfl trivial ⟨ho,(Moved.of_grew hW).trans hm (fun _ _ h=>h)⟩ trivial
   trivial
  refine⟨zqd,zqd,zqd,?_⟩
  refine⟨?_,?_⟩
  ·refine jH 0 0 ?_
   intro y w2 p hlo hhi hW hD K hK
   obtain rfl:p=0:=by omega
   have dd:=jA.cell hW HBk.out
   exact zqr
  refine⟨zqd,zqd,?_⟩
  refine⟨?_,?_⟩
  ·refine jH 0 0 ?_
   intro y w2 p hlo hhi hW hD K hK
   simp only[jV,zq4,zq5,IsP] at hD
   generalize hAA:jB y _ _=AA at hK⊢
   simp only[jB,Act.put,zq1,zq2,zq3,zq4,zq5,IsP] at hAA
   subst hAA
   simp only[zq4,zq5,IsP] at hK
   simp only[hD] at hK⊢
   clear hD
   refine jL ?_
   go_simp
   exact hK _ _ _ rfl (jA.refl _) ⟨_,_,rfl,fun h=>if_neg (by omega)⟩
  refine⟨zqd,zqd,zqd,?_⟩
  refine⟨?_,?_⟩
  ·refine jH 0 0 ?_
   intro y w2 p hlo hhi hW hD K hK
   obtain rfl:p=0:=by omega
   have dd:=jA.cell hW HBk.out
   exact zqr
  refine⟨zqd,zqd,?_⟩
  refine⟨?_,?_⟩
  ·refine jN 0 rfl ?_
   intro y w2 hW hD K hK
   simp only[jV,zq4,zq5,IsP] at hD
   have h0:=hD.1
   have h1:=hD.2.1
   have h2:=hD.2.2.1
   have h3:=hD.2.2.2.1
   have h4:=hD.2.2.2.2.1
   have h5:=hD.2.2.2.2.2.1
   have h6:=hD.2.2.2.2.2.2.1
   have h7:=hD.2.2.2.2.2.2.2.1
   have h8:=hD.2.2.2.2.2.2.2.2.1
   have h9:=hD.2.2.2.2.2.2.2.2.2.1
   have h10:=hD.2.2.2.2.2.2.2.2.2.2.1
   have h11:=hD.2.2.2.2.2.2.2.2.2.2.2.1
   have h12:=hD.2.2.2.2.2.2.2.2.2.2.2.2.1
   clear hD
   generalize hAA:jB y _ _=AA at hK⊢
   simp only[jB,Act.put,zq1,zq2,zq3,zq4,zq5,IsP] at hAA
   subst hAA
   simp only[zq4,zq5,IsP] at hK
   simp only[h0,h1,h2,h3,h4,h5,h7,h8,h9,h10,h11,h12] at hK⊢
   clear h0 h1 h2 h3 h4 h5 h7 h8 h9 h10 h11 h12
   obtain⟨da6,dc6,e6,hda6⟩:=h6
   rw[e6] at hK⊢
   clear e6
   refine jL ?_
   refine YQ w2 _ _ 22 rfl 9 underlying22 SZk gk n kc ((Kl++[(⟨#[]⟩:ByteArray)]).map Value.string) (zC HRk.out hW) (by intro u hu;obtain⟨_,_,rfl⟩:=List.mem_map.1 hu;rfl) i HIN.out _ _ _ hda6 rfl rfl ?_
   intro v w' ho hm
   exact hK _ _ _ rfl trivial ⟨ho,(Moved.of_grew hW).trans hm (fun _ _ h=>h)⟩ trivial
  trivial
 refine⟨zqd,zqd,zqd,zqd,zqd,?_⟩
 refine⟨?_,?_⟩
 ·refine jH 0 0 ?_
  intro y w2 p hlo hhi hW hD K hK
  obtain rfl:p=0:=by omega
  have d0:=jA.cell hW HC.out.1
  exact zqr
 refine⟨?_,?_⟩
 ·refine jH 0 0 ?_
  intro y w2 p hlo hhi hW hD K hK
  clear hD
  generalize hAA:jB y _ _=AA at hK⊢
  simp only[jB,Act.put,zq1,zq2,zq3,zq4,zq5,IsP] at hAA
  subst hAA
  simp only[zq4,zq5,IsP] at hK
  refine jL ?_
  go_simp
  exact hK _ _ _ rfl ((jA.refl _).alloc _) (fun _=>⟨_,rfl,HSZ p w2 hW,heap_alloc_new _ _⟩)
 refine⟨?_,?_⟩
 ·refine jN 0 rfl ?_
  intro y w2 hW hD K hK
  simp only[jV,zq4,zq5,IsP] at hD
  have h2:=hD.1
  have h3:=hD.2.1
  have h4:=hD.2.2.1
  have h5:=hD.2.2.2.1
  have h6:=hD.2.2.2.2.1
  clear hD
  generalize hAA:jB y _ _=AA at hK⊢
  simp only[jB,Act.put,zq1,zq2,zq3,zq4,zq5,IsP] at hAA
  subst hAA
  simp only[zq4,zq5,IsP] at hK
  simp only[h2,h3,h4,h5] at hK⊢
  clear h2 h3 h4 h5
  refine jL ?_
  obtain⟨g6,e6,n6,hh6⟩:=h6 (Nat.le_refl _)
  rw[e6] at hK⊢
  refine sG w2 _ _ rfl kv Kl rfl (zC HOK.out hW) g6 ⟨#[]⟩ rfl (jI hh6 0 _ rfl) (by have:=HLN.out;omega) ?_
  intro v' w' ho hgr hnx
  have hm:Moved (fun k=>kv.ownBlock=some k) w2 w':=(Moved.of_grown hgr).mono (fun j _ hj=>hj.symm)
  refine hK _ _ _ rfl hm ⟨?_,?_,?_⟩ ⟨by omega,fun _=>⟨ho,hnx.earlier hW.size⟩⟩
  ·exact hm.heap (hW.heap HST.out) (fun e=>zZ HOK.out HST.out (by decide) e)
  ·exact hm.owns (zC HOA.out hW) (fun k hk hk2=>Y5 HOK.out HOA.out (by decide) hk2 hk)
  ·exact (Moved.of_grew hW).trans hm (fun j _ hj=>.inr (.inl hj))
 refine⟨zqd,zqd,zqd,?_⟩
 refine⟨?_,?_⟩
 ·refine jH 0 1 ?_
  intro y w2 p hlo hhi hW hD K hK
  have d1:w2.cell? ⟨p0,1,none⟩=some av:=by
   rcases (show p=0∨p=1 by omega) with rfl|rfl
   ·exact jA.cell hW HC.out.2.1
   ·exact jI hW.1 1 _ rfl
  exact zqr
 refine⟨?_,?_⟩
 ·refine jH 0 1 ?_
  intro y w2 p hlo hhi hW hD K hK
  clear hD
  generalize hAA:jB y _ _=AA at hK⊢
  simp only[jB,Act.put,zq1,zq2,zq3,zq4,zq5,IsP] at hAA
  subst hAA
  simp only[zq4,zq5,IsP] at hK
  refine jL ?_
  go_simp
  exact hK _ _ _ rfl ((jA.refl _).alloc _) (fun _=>⟨_,rfl,HSZ p w2 hW,heap_alloc_new _ _⟩)
 refine⟨?_,?_⟩
 ·refine jN 1 rfl ?_
  intro y w2 hW hD K hK
  simp only[jV,zq4,zq5,IsP] at hD
  have h2:=hD.1
  have h3:=hD.2.1
  have h4:=hD.2.2.1
  have h5:=hD.2.2.2.1
  have h6:=hD.2.2.2.2.1
  have h7:=hD.2.2.2.2.2.1
  have h8:=hD.2.2.2.2.2.2.1
  have h9:=hD.2.2.2.2.2.2.2.1
  have h10:=hD.2.2.2.2.2.2.2.2.1
  have h11:=hD.2.2.2.2.2.2.2.2.2.1
  have h12:=hD.2.2.2.2.2.2.2.2.2.2.1
  clear hD
  generalize hAA:jB y _ _=AA at hK⊢
  simp only[jB,Act.put,zq1,zq2,zq3,zq4,zq5,IsP] at hAA
  subst hAA
  simp only[zq4,zq5,IsP] at hK
  simp only[h2,h3,h4,h5,h8,h9,h10,h11] at hK⊢
  clear h2 h3 h4 h5 h8 h9 h10 h11
  refine jL ?_
  obtain⟨g12,e12,n12,hh12⟩:=h12 (Nat.le_refl _)
  rw[e12] at hK⊢
  refine sH w2 _ _ rfl av Al rfl hW.2.1 g12 0 rfl (jI hh12 0 _ rfl) (by have:=HLN.out;omega) ?_
  intro v' w' ho hgr hnx
  have hm:Moved (fun k=>av.ownBlock=some k) w2 w':=(Moved.of_grown hgr).mono (fun j _ hj=>hj.symm)
  refine hK _ _ _ rfl ⟨hW.2.1,hm⟩ ⟨?_,?_⟩ ⟨Nat.le_refl _,fun _=>⟨ho,hnx.earlier hW.2.2.size⟩⟩
  ·exact hm.heap hW.1 (fun e=>zZ hW.2.1 hW.1 (by decide) e)
  ·exact hW.2.2.trans hm (fun j _ hj=>.inr (.inr hj))
 refine⟨zqd,zqd,?_⟩
 refine⟨?_,?_⟩
 ·refine jN 2 rfl ?_
  intro y w2 hW hD K hK
  have f0:=jE hW.1 0
  have d0:=jI hW.1 0 _ rfl
  simp only[jV,zq4,zq5,IsP] at hD
  have h0:=hD.1
  have h2:=hD.2.1
  have h3:=hD.2.2.1
  have h4:=hD.2.2.2.1
  have h5:=hD.2.2.2.2.1
  have h6:=hD.2.2.2.2.2.1
  have h7:=hD.2.2.2.2.2.2.1
  have h8:=hD.2.2.2.2.2.2.2.1
  have h9:=hD.2.2.2.2.2.2.2.2.1
  have h10:=hD.2.2.2.2.2.2.2.2.2.1
  have h11:=hD.2.2.2.2.2.2.2.2.2.2.1
  have h12:=hD.2.2.2.2.2.2.2.2.2.2.2.1
  have h13:=hD.2.2.2.2.2.2.2.2.2.2.2.2.1
  have h14:=hD.2.2.2.2.2.2.2.2.2.2.2.2.2.1
  have h15:=hD.2.2.2.2.2.2.2.2.2.2.2.2.2.2.1
  clear hD
  generalize hAA:jB y _ _=AA at hK⊢
  simp only[jB,Act.put,zq1,zq2,zq3,zq4,zq5,IsP] at hAA
  subst hAA
  simp only[zq4,zq5,IsP] at hK
  simp only[h0,h2,h3,h4,h5,h8,h9,h10,h11,h14,h15] at hK⊢
  clear h0 h2 h3 h4 h5 h8 h9 h10 h11 h14 h15
  have hq7:=h7.2 (by omega)
  obtain⟨a7,c7,e7,_,_,_⟩:=j7 hq7.1
  replace e7:y 7=.slice a7 (Kl.length+1) c7:=by rw[e7];simp
  rw[e7] at hK hq7⊢
  clear e7 h7
  refine jL ?_
  go_simp
  have hh:(w2.setCell ⟨p0,0,none⟩ (.slice a7 (Kl.length+1) c7)).heap[p0]? = some (iP (.slice a7 (Kl.length+1) c7) av):=by have:=heap_setCell_same w2 p0 0 _ _ (.slice a7 (Kl.length+1) c7) hW.1;simpa using this
  refine hK _ undef _ rfl ⟨⟨_,_,hW.1⟩,zK w2 p0 0 _⟩ ⟨⟨jI hh 1 _ rfl,jE hh 1⟩,_,hh,?_,hq7.2,?_⟩ trivial
  ·exact (zK w2 p0 0 _).owns hq7.1 (fun k hk e=>zZ hq7.1 hW.1 (by decide) (by rw[hk,e]))
  ·exact hW.2.trans (zK w2 p0 0 _) (fun j _ hj=>.inl hj)
 refine⟨zqd,zqd,?_⟩
 refine⟨?_,?_⟩
 ·refine jN 3 rfl ?_
  intro y w2 hW hD K hK
  have f1:=hW.1.2
  have d1:=hW.1.1
  simp only[jV,zq4,zq5,IsP] at hD
  have h0:=hD.1
  have h1:=hD.2.1
  have h2:=hD.2.2.1
  have h3:=hD.2.2.2.1
  have h4:=hD.2.2.2.2.1
  have h5:=hD.2.2.2.2.2.1
  have h6:=hD.2.2.2.2.2.2.1
  have h7:=hD.2.2.2.2.2.2.2.1
  have h8:=hD.2.2.2.2.2.2.2.2.1
  have h9:=hD.2.2.2.2.2.2.2.2.2.1
  have h10:=hD.2.2.2.2.2.2.2.2.2.2.1
  have h11:=hD.2.2.2.2.2.2.2.2.2.2.2.1
  have h12:=hD.2.2.2.2.2.2.2.2.2.2.2.2.1
  have h13:=hD.2.2.2.2.2.2.2.2.2.2.2.2.2.1
  have h14:=hD.2.2.2.2.2.2.2.2.2.2.2.2.2.2.1
  have h15:=hD.2.2.2.2.2.2.2.2.2.2.2.2.2.2.2.1
  have h17:=hD.2.2.2.2.2.2.2.2.2.2.2.2.2.2.2.2.2.1
  have h18:=hD.2.2.2.2.2.2.2.2.2.2.2.2.2.2.2.2.2.2.1
  clear hD
  generalize hAA:jB y _ _=AA at hK⊢
  simp only[jB,Act.put,zq1,zq2,zq3,zq4,zq5,IsP] at hAA
  subst hAA
  simp only[zq4,zq5,IsP] at hK
  simp only[h0,h1,h2,h3,h4,h5,h8,h9,h10,h11,h14,h15,h17,h18] at hK⊢
  clear h0 h1 h2 h3 h4 h5 h8 h9 h10 h11 h14 h15 h17 h18
  have hq13:=h13.2 (by omega)
  obtain⟨a13,c13,e13,_,_,_⟩:=j7 hq13.1
  replace e13:y 13=.slice a13 (Al.length+1) c13:=by rw[e13];simp
  rw[e13] at hK hq13⊢
  clear e13 h13
  refine jL ?_
  go_simp
  refine hK _ undef _ rfl ?_ ?_ trivial
  ·obtain⟨_,kv3,hW3⟩:=hW
   exact⟨⟨_,_,hW3.1⟩,zK w2 p0 1 _⟩
  ·obtain⟨_,kv3,hW3⟩:=hW
   refine⟨kv3,_,?_,?_,hW3.2.2.1,?_,hq13.2,?_⟩
   ·have:=heap_setCell_same w2 p0 1 _ _ (.slice a13 (Al.length+1) c13) hW3.1;simpa using this
   ·exact (zK w2 p0 1 _).owns hW3.2.1 (fun k hk e=>zZ hW3.2.1 hW3.1 (by decide) (by rw[hk,e]))
   ·exact (zK w2 p0 1 _).owns hq13.1 (fun k hk e=>zZ hq13.1 hW3.1 (by decide) (by rw[hk,e]))
   ·exact hW3.2.2.2.trans (zK w2 p0 1 _) (fun j _ hj=>.inl hj)
 trivial
def ZZ (p:Nat) (S:Nat→Prop) (l:zR) (w w':World):Prop:=∃S',zV w' p S' l∧JV S S' w w'∧Moved S w w'
theorem ZZ.refl {w:World} {p:Nat} {S:Nat→Prop} {l:zR} (h:zV w p S l):ZZ p S l w w:=⟨S,h,JV.refl _ _ _,Moved.refl _ _⟩
theorem ZZ.grew {w w':World} {p:Nat} {S:Nat→Prop} {l:zR} (h:zV w p S l) (hg:jA w w'):ZZ p S l w w':=⟨S,h.grew hg,JV.refl _ _ _,Moved.of_grew hg⟩
theorem b7 {w:World} {p:Nat} {S:Nat→Prop} {l:zR} (k:ByteArray) (a:Int) (h:zV w p S l) (hl:l.length≤1048577) :
 Calls prog 73 #[jF p,.string k,.int .i64 a] w fun r w'=>r=.returned (.int .i64 (qY k a l))∧ZZ p S (zL k a l) w w':=by
 have HB:=zh h
 clear h
 by_cases h0:a < 0
 ·have HE:Hid (qY k a l=2∧zL k a l=l):=by show _∧_;unfold qY zL;rw[if_pos (.inl h0),if_pos (.inl h0)];exact⟨rfl,rfl⟩
  rw[HE.out.1,HE.out.2]
  go_enter func73,ntmps73
  go_wp2_with fail
  refine (KM HB.out).mono ?_
  rintro r w' ⟨rfl,rfl⟩
  go_wp2
  go_ret
  exact⟨rfl,ZZ.refl HB.out⟩
 ·by_cases h1:9007199254740991 < a
  ·have HE:Hid (qY k a l=2∧zL k a l=l):=by show _∧_;unfold qY zL;rw[if_pos (.inr h1),if_pos (.inr h1)];exact⟨rfl,rfl⟩
   rw[HE.out.1,HE.out.2]
   go_enter func73,ntmps73
   go_wp2_with fail
   refine (KM HB.out).mono ?_
   rintro r w' ⟨rfl,rfl⟩
   go_wp2
   go_ret
   exact⟨rfl,ZZ.refl HB.out⟩
  ·have hn:¬(a < 0∨9007199254740991 < a):=fun h=>h.elim h0 h1
   cases hp:fK l k with
   | true=>
    have HE:Hid (qY k a l=71∧zL k a l=l):=by show _∧_;unfold qY zL;rw[if_neg hn,if_neg hn,hp];exact⟨rfl,rfl⟩
    have HP:=zh hp
    rw[HE.out.1,HE.out.2]
    clear hp hn
    go_enter func73,ntmps73
    go_wp2_with fail
    refine (KM HB.out).mono ?_
    rintro r w' ⟨rfl,rfl⟩
    go_wp2_with fail
    refine (VO k HB.out).mono ?_
    rw[HP.out]
    rintro r w2 ⟨rfl,hg⟩
    have HG:=zh hg
    clear hg
    go_wp2
    go_ret
    exact⟨rfl,ZZ.grew HB.out HG.out⟩
   | false=>
    have HE:Hid (qY k a l=0∧zL k a l=KI l (yJ l k) (k,a)):=by show _∧_;unfold qY zL;rw[if_neg hn,if_neg hn,hp];exact⟨rfl,rfl⟩
    have HP:=zh hp
    have HL:=zh (oX l k)
    rw[HE.out.1,HE.out.2]
    have HPA:=zh (VO k HB.out)
    rw[HP.out] at HPA
    clear hp hn HP HE
    generalize yJ l k=i at *
    go_enter func73,ntmps73
    go_wp2_with fail
    refine (KM HB.out).mono ?_
    rintro r w' ⟨rfl,rfl⟩
    go_wp2_with fail
    refine HPA.out.mono ?_
    rintro r w2 ⟨rfl,hg⟩
    have HG:=zh hg
    clear hg
    go_wp2_with fail
    refine (lay_any i k a (HB.out.grew HG.out) HL.out hl).mono ?_
    rintro r w3 ⟨rfl,ht⟩
    have HT:=zh ht
    clear ht
    go_wp2
    go_ret
    obtain⟨S',k1,k2,k3⟩:=HT.out
    exact⟨rfl,S',k1,fun b hb=>(k2 b hb).imp id (fun h=>⟨Nat.le_trans HG.out.size h.1,h.2⟩),(Moved.of_grew (S:=S) HG.out).trans' k3⟩
def VP (w:World) (p:Nat) (S:Nat→Prop) (most:Int) (s:St):Prop:=S p∧∃o,kU 0 w p o s.1 most s.2∧∀k,o=some k→S k
def qM (l:List (Int × ByteArray)):List (Int × Value):=l.map fun q=>(q.1,.string q.2)
def K5 (w:World) (r:Nat) (S:Nat→Prop) (l:List (Int × ByteArray)):Prop:=S r∧cT w r (qM l)
section
variable {w w':World} {p r:Nat} {S S' T:Nat→Prop} {most:Int} {s s':St} {l:List (Int × ByteArray)}
theorem VP.kept (h:VP w p S most s) (hm:Moved T w w') (hd:∀k,S k→¬T k):VP w' p S most s:=by
 obtain⟨h0,o,h1,h2⟩:=h
 exact⟨h0,o,h1.kept hm (hd _ h0) (fun k hk=>hd k (h2 k hk)),h2⟩
theorem VP.mono (h:VP w p S most s) (hs:∀k,k < w.heap.size→S k→S' k):VP w p S' most s:=by
 obtain⟨h0,o,h1,h2⟩:=h
 exact⟨hs _ (h1.lt _ (.inl rfl)) h0,o,h1,fun k hk=>hs k (h1.lt _ (.inr hk.symm)) (h2 k hk)⟩
theorem VP.turn {o:Option Nat} (h0:S p) (h1:kU 0 w p o s.1 most s.2) (h2:∀k,o=some k→S k) (ht:jZ 0 w w' p o most s'):∃S',VP w' p S' most s'∧JV S S' w w'∧Moved S w w':=by
 obtain⟨o',k1,k2,k3⟩:=ht
 refine⟨qH p o',⟨.inl rfl,o',k1,fun k hk=>.inr hk.symm⟩,fun k hk=>?_,k3.mono (fun j _ hj=>hj.elim (fun e=>e ▸ h0) (fun e=>h2 j e.symm))⟩
 rcases hk with rfl|hk
 ·exact .inl h0
 ·rcases k2 k hk.symm with e|e
  ·exact .inl (h2 k e)
  ·exact .inr ⟨e,k1.lt k (.inr hk)⟩
theorem K5.kept (h:K5 w r S l) (hm:Moved T w w') (hd:∀k,S k→¬T k):K5 w' r S l:=⟨h.1,hm.heap h.2 (hd _ h.1)⟩
theorem K5.mono (h:K5 w r S l) (hs:∀k,k < w.heap.size→S k→S' k):K5 w r S' l:=⟨hs _ (Array.getElem?_eq_some_iff.1 h.2).1 h.1,h.2⟩
end
structure kN where
 p:Nat
 b:Nat
 s:Nat
 k:Nat
 t:Nat
 l:Nat
 m:Nat
abbrev Y9 (q:kN) (flags:Int) (vv:Value) (e:Int):Obj:=.cells #[jF q.b,jF q.s,.int .i64 e,.int .i64 flags,jF q.k,jF q.t,jF q.l,.map (some q.m),vv,.bool true] 61 (0,0)
structure BS.Ok (most:Int) (x:BS):Prop where
 m0:0≤most
 m1:most≤1048576
 len:(x.s.1.length:Int)≤most
 stk:x.stk.length≤65536
 okS:∀v∈x.stk,okV v
 keys:x.keys.length≤1048577
 texts:x.texts.length≤1048577
 lists:x.lists.length≤1048577
 vals:x.vals.length≤1048577
 okL:∀v∈x.vals,okV v
 okK:∀z∈x.keys,0≤z.2∧z.2≤9007199254740991
 okT:∀z∈x.texts,0≤z.2∧z.2≤9007199254740991
def Z0 (w:World) (q:kN) (flags:Int) (S:Nat→Prop) (e:Int) (vals:List V3):Prop:=S q.p∧∃vv,w.heap[q.p]? = some (Y9 q flags vv e)∧jO w 0 vv vals∧∀g,vv.ownBlock=some g→S g
structure Bd (B:Nat) (q:kN) (most flags:Int) (κ:Nat→Nat) (x:BS) (w:World):Prop where
 lt:∀k,κ k≠0→B≤k∧k < w.heap.size
 ok:x.Ok most
 self:Z0 w q flags (fun k=>κ k=1) x.e x.vals
 buf:VP w q.b (fun k=>κ k=2) most x.s
 stk:qZ w q.s (fun k=>κ k=3) x.stk
 keys:zV w q.k (fun k=>κ k=4) x.keys
 texts:zV w q.t (fun k=>κ k=5) x.texts
 lists:zV w q.l (fun k=>κ k=6) x.lists
 names:K5 w q.m (fun k=>κ k=7) x.names
def Tn (κ κ':Nat→Nat) (w w':World):Prop:=Moved (fun k=>κ k≠0) w w'∧∀k,k < w.heap.size→κ' k=κ k
def j1 (B:Nat) (q:kN) (most flags:Int) (κ:Nat→Nat) (x:BS) (w w':World):Prop:=∃κ',Bd B q most flags κ' x w'∧Tn κ κ' w w'
section
variable {B:Nat} {q:kN} {most flags:Int} {κ κ':Nat→Nat} {x x':BS} {w w' w2:World}
theorem Z0.kept {S T:Nat→Prop} {e:Int} {vals:List V3} (h:Z0 w q flags S e vals) (hm:Moved T w w') (hd:∀k,S k→¬T k):Z0 w' q flags S e vals:=by
 obtain⟨h0,vv,h1,h2,h3⟩:=h
 exact⟨h0,vv,hm.heap h1 (hd _ h0),hm.owns h2 (fun k hk=>hd k (h3 k hk)),h3⟩
theorem Z0.mono {S S':Nat→Prop} {e:Int} {vals:List V3} (h:Z0 w q flags S e vals) (hs:∀k,k < w.heap.size→S k→S' k):Z0 w q flags S' e vals:=by
 obtain⟨h0,vv,h1,h2,h3⟩:=h
 exact⟨hs _ (Array.getElem?_eq_some_iff.1 h1).1 h0,vv,h1,h2,fun g hg=>hs g (JE h2 hg) (h3 g hg)⟩
theorem Tn.refl (κ:Nat→Nat) (w:World):Tn κ κ w w:=⟨Moved.refl _ _,fun _ _=>rfl⟩
theorem Bd.grew (h:Bd B q most flags κ x w) (hg:jA w w'):Bd B q most flags κ x w':=
 have hm:Moved (fun _=>False) w w':=Moved.of_grew hg
 ⟨fun k hk=>⟨(h.lt k hk).1,Nat.lt_of_lt_of_le (h.lt k hk).2 hg.size⟩,h.ok,h.self.kept hm (fun _ _ h=>h),h.buf.kept hm (fun _ _ h=>h),h.stk.kept hm (fun _ _ h=>h),h.keys.kept hm (fun _ _ h=>h),h.texts.kept hm (fun _ _ h=>h),h.lists.kept hm (fun _ _ h=>h),h.names.kept hm (fun _ _ h=>h)⟩
theorem Bd.refl (h:Bd B q most flags κ x w):j1 B q most flags κ x w w:=⟨κ,h,Tn.refl _ _⟩
theorem Tn.trans {κ'':Nat→Nat} (h:Tn κ κ' w w') (k:Tn κ' κ'' w' w2):Tn κ κ'' w w2:=
 ⟨h.1.trans k.1 (fun j hj hk=>by rwa [h.2 j hj] at hk),fun j hj=>(k.2 j (Nat.lt_of_lt_of_le hj h.1.size)).trans (h.2 j hj)⟩
theorem Tn.of_grew (hg:jA w w'):Tn κ κ w w':=⟨Moved.of_grew hg,fun _ _=>rfl⟩
theorem j1.after (hg:jA w w') (h:j1 B q most flags κ x w' w2):j1 B q most flags κ x w w2:=by
 obtain⟨κ1,h1,h2⟩:=h
 exact⟨κ1,h1,(Tn.of_grew hg).trans h2⟩
def J4 (κ:Nat→Nat) (c:Nat) (w w':World) (k:Nat):Nat:=if k < w.heap.size then κ k else if k < w'.heap.size then c else 0
theorem eH {c k:Nat} (h:k < w.heap.size):J4 κ c w w' k=κ k:=if_pos h
theorem JW (h:∀k,κ k≠0→B≤k∧k < w.heap.size) (hB:B≤w.heap.size) (hs:w.heap.size≤w'.heap.size) {c:Nat}:∀k,J4 κ c w w' k≠0→B≤k∧k < w'.heap.size:=by
 intro k hk
 unfold J4 at hk
 split at hk
 ·have:=h k hk;exact⟨this.1,by omega⟩
 ·split at hk
  ·exact⟨by omega,by assumption⟩
  ·exact absurd rfl hk
theorem jQ {c d:Nat} (hd:d≠0) (h:∀k,κ k≠0→B≤k∧k < w.heap.size) (k:Nat) (hk:κ k=d):J4 κ c w w' k=d:=by
 rw[eH (h k (by rw[hk];exact hd)).2];exact hk
theorem JI {c:Nat} {S':Nat→Prop} (hc:c≠0) (h:∀k,κ k≠0→B≤k∧k < w.heap.size) (hn:JV (fun k=>κ k=c) S' w w') (k:Nat) (hk:S' k):J4 κ c w w' k=c:=by
 rcases hn k hk with e|⟨e1,e2⟩
 ·exact jQ hc h k e
 ·unfold J4;rw[if_neg (by omega),if_pos e2]
theorem K6 {c:Nat} (hc:c≠0) (hm:Moved (fun k=>κ k=c) w w'):Tn κ (J4 κ c w w') w w':=⟨hm.mono (fun j _ hj=>by show κ j≠0;rw[hj];exact hc),fun k hk=>eH hk⟩
theorem Bd.size (h:Bd B q most flags κ x w):B≤w.heap.size:=by
 have:=h.lt q.p (by rw[h.self.1];decide)
 omega
end
section
variable {B:Nat} {q:kN} {most flags:Int} {κ κ' κ0:Nat→Nat} {x x' y:BS} {w w' w2 w0:World}
theorem jR {c d:Nat} (hcd:d≠c):∀k,κ k=d→¬κ k=c:=fun k h e=>hcd (h.symm.trans e)
section steps
variable (h:Bd B q most flags κ x w)
include h
theorem Bd.buf_step {S':Nat→Prop} {s':St} (hl:(s'.1.length:Int)≤most) (h1:VP w' q.b S' most s') (h2:JV (fun k=>κ k=2) S' w w') (h3:Moved (fun k=>κ k=2) w w'):j1 B q most flags κ {x with s:=s'} w w':=
 ⟨J4 κ 2 w w',⟨JW h.lt h.size h3.size,⟨h.ok.m0,h.ok.m1,hl,h.ok.stk,h.ok.okS,h.ok.keys,h.ok.texts,h.ok.lists,h.ok.vals,h.ok.okL,h.ok.okK,h.ok.okT⟩,
  (h.self.kept h3 (jR (by decide))).mono (fun k _=>jQ (by decide) h.lt k),h1.mono (fun k _=>JI (by decide) h.lt h2 k),(h.stk.kept h3 (jR (by decide))).mono (fun k _=>jQ (by decide) h.lt k),
  (h.keys.kept h3 (jR (by decide))).mono (fun k _=>jQ (by decide) h.lt k),(h.texts.kept h3 (jR (by decide))).mono (fun k _=>jQ (by decide) h.lt k),(h.lists.kept h3 (jR (by decide))).mono (fun k _=>jQ (by decide) h.lt k),(h.names.kept h3 (jR (by decide))).mono (fun k _=>jQ (by decide) h.lt k)⟩,K6 (by decide) h3⟩
theorem Bd.stk_step {l':List V3} (hl:l'.length≤65536) (ho:∀v∈l',okV v) (ht:V2 q.s (fun k=>κ k=3) l' w w'):j1 B q most flags κ {x with stk:=l'} w w':=by
 obtain⟨S',h1,h2,h3⟩:=ht
 exact⟨J4 κ 3 w w',⟨JW h.lt h.size h3.size,⟨h.ok.m0,h.ok.m1,h.ok.len,hl,ho,h.ok.keys,h.ok.texts,h.ok.lists,h.ok.vals,h.ok.okL,h.ok.okK,h.ok.okT⟩,
  (h.self.kept h3 (jR (by decide))).mono (fun k _=>jQ (by decide) h.lt k),(h.buf.kept h3 (jR (by decide))).mono (fun k _=>jQ (by decide) h.lt k),h1.mono (fun k _=>JI (by decide) h.lt h2 k),
  (h.keys.kept h3 (jR (by decide))).mono (fun k _=>jQ (by decide) h.lt k),(h.texts.kept h3 (jR (by decide))).mono (fun k _=>jQ (by decide) h.lt k),(h.lists.kept h3 (jR (by decide))).mono (fun k _=>jQ (by decide) h.lt k),(h.names.kept h3 (jR (by decide))).mono (fun k _=>jQ (by decide) h.lt k)⟩,K6 (by decide) h3⟩
theorem Bd.keys_step {l':zR} (hl:l'.length≤1048577) (hk:∀z∈l',0≤z.2∧z.2≤9007199254740991) (ht:ZZ q.k (fun k=>κ k=4) l' w w'):j1 B q most flags κ {x with keys:=l'} w w':=by
 obtain⟨S',h1,h2,h3⟩:=ht
 exact⟨J4 κ 4 w w',⟨JW h.lt h.size h3.size,⟨h.ok.m0,h.ok.m1,h.ok.len,h.ok.stk,h.ok.okS,hl,h.ok.texts,h.ok.lists,h.ok.vals,h.ok.okL,hk,h.ok.okT⟩,
  (h.self.kept h3 (jR (by decide))).mono (fun k _=>jQ (by decide) h.lt k),(h.buf.kept h3 (jR (by decide))).mono (fun k _=>jQ (by decide) h.lt k),(h.stk.kept h3 (jR (by decide))).mono (fun k _=>jQ (by decide) h.lt k),
  h1.mono (fun k _=>JI (by decide) h.lt h2 k),(h.texts.kept h3 (jR (by decide))).mono (fun k _=>jQ (by decide) h.lt k),(h.lists.kept h3 (jR (by decide))).mono (fun k _=>jQ (by decide) h.lt k),(h.names.kept h3 (jR (by decide))).mono (fun k _=>jQ (by decide) h.lt k)⟩,K6 (by decide) h3⟩
theorem Bd.texts_step {l':zR} (hl:l'.length≤1048577) (hk:∀z∈l',0≤z.2∧z.2≤9007199254740991) (ht:ZZ q.t (fun k=>κ k=5) l' w w'):j1 B q most flags κ {x with texts:=l'} w w':=by
 obtain⟨S',h1,h2,h3⟩:=ht
 exact⟨J4 κ 5 w w',⟨JW h.lt h.size h3.size,⟨h.ok.m0,h.ok.m1,h.ok.len,h.ok.stk,h.ok.okS,h.ok.keys,hl,h.ok.lists,h.ok.vals,h.ok.okL,h.ok.okK,hk⟩,
  (h.self.kept h3 (jR (by decide))).mono (fun k _=>jQ (by decide) h.lt k),(h.buf.kept h3 (jR (by decide))).mono (fun k _=>jQ (by decide) h.lt k),(h.stk.kept h3 (jR (by decide))).mono (fun k _=>jQ (by decide) h.lt k),
  (h.keys.kept h3 (jR (by decide))).mono (fun k _=>jQ (by decide) h.lt k),h1.mono (fun k _=>JI (by decide) h.lt h2 k),(h.lists.kept h3 (jR (by decide))).mono (fun k _=>jQ (by decide) h.lt k),(h.names.kept h3 (jR (by decide))).mono (fun k _=>jQ (by decide) h.lt k)⟩,K6 (by decide) h3⟩
theorem Bd.lists_step {l':zR} (hl:l'.length≤1048577) (ht:ZZ q.l (fun k=>κ k=6) l' w w'):j1 B q most flags κ {x with lists:=l'} w w':=by
 obtain⟨S',h1,h2,h3⟩:=ht
 exact⟨J4 κ 6 w w',⟨JW h.lt h.size h3.size,⟨h.ok.m0,h.ok.m1,h.ok.len,h.ok.stk,h.ok.okS,h.ok.keys,h.ok.texts,hl,h.ok.vals,h.ok.okL,h.ok.okK,h.ok.okT⟩,
  (h.self.kept h3 (jR (by decide))).mono (fun k _=>jQ (by decide) h.lt k),(h.buf.kept h3 (jR (by decide))).mono (fun k _=>jQ (by decide) h.lt k),(h.stk.kept h3 (jR (by decide))).mono (fun k _=>jQ (by decide) h.lt k),
  (h.keys.kept h3 (jR (by decide))).mono (fun k _=>jQ (by decide) h.lt k),(h.texts.kept h3 (jR (by decide))).mono (fun k _=>jQ (by decide) h.lt k),h1.mono (fun k _=>JI (by decide) h.lt h2 k),(h.names.kept h3 (jR (by decide))).mono (fun k _=>jQ (by decide) h.lt k)⟩,K6 (by decide) h3⟩
theorem Bd.names_step {l':List (Int × ByteArray)} (h1:cT w' q.m (qM l')) (h3:Moved (fun k=>k=q.m) w w'):j1 B q most flags κ {x with names:=l'} w w':=by
 have hm:κ q.m=7:=h.names.1
 have hM:Moved (fun k=>κ k=7) w w':=h3.mono (fun j _ hj=>by show κ j=7;rw[hj];exact hm)
 exact⟨J4 κ 7 w w',⟨JW h.lt h.size h3.size,⟨h.ok.m0,h.ok.m1,h.ok.len,h.ok.stk,h.ok.okS,h.ok.keys,h.ok.texts,h.ok.lists,h.ok.vals,h.ok.okL,h.ok.okK,h.ok.okT⟩,
  (h.self.kept hM (jR (by decide))).mono (fun k _=>jQ (by decide) h.lt k),(h.buf.kept hM (jR (by decide))).mono (fun k _=>jQ (by decide) h.lt k),(h.stk.kept hM (jR (by decide))).mono (fun k _=>jQ (by decide) h.lt k),
  (h.keys.kept hM (jR (by decide))).mono (fun k _=>jQ (by decide) h.lt k),(h.texts.kept hM (jR (by decide))).mono (fun k _=>jQ (by decide) h.lt k),(h.lists.kept hM (jR (by decide))).mono (fun k _=>jQ (by decide) h.lt k),⟨jQ (by decide) h.lt _ hm,h1⟩⟩,K6 (by decide) hM⟩
theorem Bd.self_step {S':Nat→Prop} {e':Int} {vals':List V3} (hv:vals'.length≤1048577) (ho:∀v∈vals',okV v) (h1:Z0 w' q flags S' e' vals') (h2:JV (fun k=>κ k=1) S' w w') (h3:Moved (fun k=>κ k=1) w w'):j1 B q most flags κ {x with e:=e',vals:=vals'} w w':=
 ⟨J4 κ 1 w w',⟨JW h.lt h.size h3.size,⟨h.ok.m0,h.ok.m1,h.ok.len,h.ok.stk,h.ok.okS,h.ok.keys,h.ok.texts,h.ok.lists,hv,ho,h.ok.okK,h.ok.okT⟩,
  h1.mono (fun k _=>JI (by decide) h.lt h2 k),(h.buf.kept h3 (jR (by decide))).mono (fun k _=>jQ (by decide) h.lt k),(h.stk.kept h3 (jR (by decide))).mono (fun k _=>jQ (by decide) h.lt k),
  (h.keys.kept h3 (jR (by decide))).mono (fun k _=>jQ (by decide) h.lt k),(h.texts.kept h3 (jR (by decide))).mono (fun k _=>jQ (by decide) h.lt k),(h.lists.kept h3 (jR (by decide))).mono (fun k _=>jQ (by decide) h.lt k),(h.names.kept h3 (jR (by decide))).mono (fun k _=>jQ (by decide) h.lt k)⟩,K6 (by decide) h3⟩
theorem Bd.row:∃vv,w.heap[q.p]? = some (Y9 q flags vv x.e):=by obtain⟨_,vv,h1,_⟩:=h.self;exact⟨vv,h1⟩
theorem Bd.setE (e':Int):j1 B q most flags κ {x with e:=e'} w (w.setCell ⟨q.p,2,none⟩ (.int .i64 e')):=by
 obtain⟨h0,vv,h1,h2,h3⟩:=h.self
 have hm:Moved (fun k=>k=q.p) w (w.setCell ⟨q.p,2,none⟩ (.int .i64 e')):=zK w q.p 2 _
 refine h.self_step (S':=fun k=>κ k=1) h.ok.vals h.ok.okL ⟨h0,vv,?_,hm.owns h2 (fun k hk e=>zZ h2 h1 (by decide) (by rw[hk,e])),h3⟩ (JV.refl _ _ _) (hm.mono (fun j _ hj=>by show κ j=1;rw[hj];exact h0))
 have:=heap_setCell_same w q.p 2 _ _ (.int .i64 e') h1
 simpa using this
theorem Bd.buf_calls {f:Nat} {args:Array Value} {R:Ending→Prop} {s':St} (hl:(s'.1.length:Int)≤most)
 (hc:∀o,kU 0 w q.b o x.s.1 most x.s.2→(∀k,qH q.b o k→κ k=2)→Calls prog f args w fun r w'=>R r∧jZ 0 w w' q.b o most s') :
 Calls prog f args w fun r w'=>R r∧j1 B q most flags κ {x with s:=s'} w w':=by
 obtain⟨h0,o,h1,h2⟩:=h.buf
 refine (hc o h1 (fun k hk=>hk.elim (fun e=>e ▸ h0) (fun e=>h2 k e.symm))).mono fun r w' hr=>⟨hr.1,?_⟩
 obtain⟨S',k1,k2,k3⟩:=VP.turn (S:=fun k=>κ k=2) h0 h1 h2 hr.2
 exact h.buf_step hl k1 k2 k3
end steps
def Env (B:Nat) (q:kN) (most flags:Int) (w0:World) (κ0:Nat→Nat) (Kp:List (Nat × Obj)) (x:BS) (w:World):Prop:=
 ∃κ,Bd B q most flags κ x w∧Tn κ0 κ w0 w∧∀z∈Kp,w.heap[z.1]? = some z.2∧κ z.1=0
variable {Kp:List (Nat × Obj)}
theorem Env.start (h:Bd B q most flags κ x w):Env B q most flags w κ [] x w:=⟨κ,h,Tn.refl _ _,by simp⟩
theorem Env.turn (h:Env B q most flags w0 κ0 Kp x w):j1 B q most flags κ0 x w0 w:=by obtain⟨κ,h1,h2,_⟩:=h;exact⟨κ,h1,h2⟩
theorem Env.grew (h:Env B q most flags w0 κ0 Kp x w) (hg:jA w w'):Env B q most flags w0 κ0 Kp x w':=by
 obtain⟨κ,h1,h2,h3⟩:=h
 exact⟨κ,h1.grew hg,h2.trans (Tn.of_grew hg),fun z hz=>⟨hg.heap (h3 z hz).1,(h3 z hz).2⟩⟩
theorem Env.add (h:Env B q most flags w0 κ0 Kp x w) (o:Obj):Env B q most flags w0 κ0 ((w.heap.size,o)::Kp) x (w.alloc o):=by
 obtain⟨κ,h1,h2,h3⟩:=h
 have hg:=(jA.refl w).alloc o
 refine⟨κ,h1.grew hg,h2.trans (Tn.of_grew hg),fun z hz=>?_⟩
 rcases List.mem_cons.1 hz with rfl|hz
 ·exact⟨heap_alloc_new w o,Decidable.byContradiction fun hk=>by have:=(h1.lt _ hk).2;omega⟩
 ·exact⟨hg.heap (h3 z hz).1,(h3 z hz).2⟩
theorem Env.kp (h:Env B q most flags w0 κ0 Kp x w) {n:Nat} {o:Obj} (hm:(n,o)∈Kp):w.heap[n]? = some o:=by obtain⟨κ,_,_,h3⟩:=h;exact (h3 _ hm).1
theorem Env.row (h:Env B q most flags w0 κ0 Kp x w):∃vv,w.heap[q.p]? = some (Y9 q flags vv x.e):=by obtain⟨κ,h1,_⟩:=h;exact h1.row
theorem Env.size (h:Env B q most flags w0 κ0 Kp x w):w0.heap.size≤w.heap.size:=by obtain⟨κ,_,h2,_⟩:=h;exact h2.1.size
theorem Env.after (h:Env B q most flags w0 κ0 Kp x w) (ht:∀κ,Bd B q most flags κ x w→(∀z∈Kp,κ z.1=0)→j1 B q most flags κ y w w'):Env B q most flags w0 κ0 Kp y w':=by
 obtain⟨κ,h1,h2,h3⟩:=h
 obtain⟨κ1,k1,k2⟩:=ht κ h1 (fun z hz=>(h3 z hz).2)
 exact⟨κ1,k1,h2.trans k2,fun z hz=>⟨k2.1.heap (h3 z hz).1 (fun e=>e (h3 z hz).2),(k2.2 z.1 (Array.getElem?_eq_some_iff.1 (h3 z hz).1).1).trans (h3 z hz).2⟩⟩
theorem Env.callw {f:Nat} {args:Array Value} {R:Ending→Prop} {w1:World} (h:Env B q most flags w0 κ0 Kp x w) (hc:∀κ,Bd B q most flags κ x w→(∀z∈Kp,κ z.1=0)→Calls prog f args w1 fun r w'=>R r∧j1 B q most flags κ y w w') :
 Calls prog f args w1 fun r w'=>R r∧Env B q most flags w0 κ0 Kp y w':=by
 obtain⟨κ,h1,h2,h3⟩:=h
 refine (hc κ h1 (fun z hz=>(h3 z hz).2)).mono fun r w' hr=>⟨hr.1,?_⟩
 obtain⟨κ1,k1,k2⟩:=hr.2
 exact⟨κ1,k1,h2.trans k2,fun z hz=>⟨k2.1.heap (h3 z hz).1 (fun e=>e (h3 z hz).2),(k2.2 z.1 (Array.getElem?_eq_some_iff.1 (h3 z hz).1).1).trans (h3 z hz).2⟩⟩
theorem Env.call {f:Nat} {args:Array Value} {R:Ending→Prop} (h:Env B q most flags w0 κ0 Kp x w) (hc:∀κ,Bd B q most flags κ x w→(∀z∈Kp,κ z.1=0)→Calls prog f args w fun r w'=>R r∧j1 B q most flags κ y w w') :
 Calls prog f args w fun r w'=>R r∧Env B q most flags w0 κ0 Kp y w':=by
 have h':=h
 obtain⟨κ,h1,h2,h3⟩:=h
 refine (hc κ h1 (fun z hz=>(h3 z hz).2)).mono fun r w' hr=>⟨hr.1,?_⟩
 obtain⟨κ1,k1,k2⟩:=hr.2
 exact⟨κ1,k1,h2.trans k2,fun z hz=>⟨k2.1.heap (h3 z hz).1 (fun e=>e (h3 z hz).2),(k2.2 z.1 (Array.getElem?_eq_some_iff.1 (h3 z hz).1).1).trans (h3 z hz).2⟩⟩
end
theorem Env.told {B:Nat} {q:kN} {most flags:Int} {κ:Nat→Nat} {x:BS} {w w2 w3:World} {Kp:List (Nat × Obj)} {N:Nat} {o:Obj} (h:Env B q most flags w κ Kp x w2) (hN:(N,o)∈Kp) (hw:w.heap.size≤N) (hm:Moved (fun k=>k=N) w2 w3):j1 B q most flags κ x w w3:=by
 obtain⟨κ1,h1,h2,h3⟩:=h
 have hz:=(h3 _ hN).2
 have hd:∀c,c≠0→∀k,κ1 k=c→¬k=N:=fun c hc k hk e=>hc (by rw[← hk,e];exact hz)
 exact⟨κ1,⟨fun k hk=>⟨(h1.lt k hk).1,Nat.lt_of_lt_of_le (h1.lt k hk).2 hm.size⟩,h1.ok,h1.self.kept hm (hd 1 (by decide)),h1.buf.kept hm (hd 2 (by decide)),h1.stk.kept hm (hd 3 (by decide)),h1.keys.kept hm (hd 4 (by decide)),h1.texts.kept hm (hd 5 (by decide)),h1.lists.kept hm (hd 6 (by decide)),h1.names.kept hm (hd 7 (by decide))⟩,
  h2.1.trans hm (fun j hj e=>by omega),h2.2⟩
theorem VQ {B:Nat} {q:kN} {most flags:Int} {κ:Nat→Nat} {x:BS} {w:World} (h:Bd B q most flags κ x w):Calls prog 43 #[jF q.p] w fun r w'=>r=.returned (.bool false)∧w'=w:=by
 obtain⟨vv,h1⟩:=h.row
 have c9:=jI h1 9 _ rfl
 clear h1
 go_enter func43,ntmps43
 go_wp2
 go_ret
 exact⟨rfl,rfl⟩
theorem sI {B:Nat} {q:kN} {most flags:Int} {κ:Nat→Nat} {x:BS} {w:World} (h:Bd B q most flags κ x w):Calls prog 67 #[jF q.p] w fun r w'=>r=.returned (.int .i64 x.e)∧w'=w:=by
 have HB:=zh h
 obtain⟨vv,h1⟩:=h.row
 have c2:=jI h1 2 _ rfl
 clear h1
 go_enter func67,ntmps67
 go_wp2_with fail
 refine (VQ HB.out).mono ?_
 rintro r w' ⟨rfl,rfl⟩
 go_wp2
 go_ret
 exact⟨rfl,rfl⟩
theorem iT {B:Nat} {q:kN} {most flags:Int} {κ:Nat→Nat} {x:BS} {w:World} (h:Bd B q most flags κ x w):Calls prog 147 #[jF q.p] w fun r w'=>r=.returned (.int .i64 x.stk.length)∧w'=w:=by
 have HB:=zh h
 obtain⟨vv,h1⟩:=h.row
 have c1:=jI h1 1 _ rfl
 clear h1
 go_enter func147,ntmps147
 go_wp2_with fail
 refine (VQ HB.out).mono ?_
 rintro r w' ⟨rfl,rfl⟩
 go_wp2_with fail
 refine (iL HB.out.stk).mono ?_
 rintro r w2 ⟨rfl,rfl⟩
 go_wp2
 go_ret
 exact⟨rfl,rfl⟩
theorem on_any {B:Nat} {q:kN} {most flags:Int} {κ:Nat→Nat} {x:BS} {w:World} (flag:Int) (h:Bd B q most flags κ x w):Calls prog 72 #[.pointer (some ⟨q.p,3,none⟩),.int .i64 flag] w fun r w'=>r=.returned (.bool (onF flags flag))∧w'=w:=by
 obtain⟨vv,h1⟩:=h.row
 have c3:=jI h1 3 _ rfl
 clear h1
 go_enter func72,ntmps72
 go_wp2
 go_ret
 exact⟨rfl,rfl⟩
theorem kV {B:Nat} {q:kN} {most flags:Int} {κ:Nat→Nat} {x:BS} {w:World} (e:Int) (h:Bd B q most flags κ x w):Calls prog 35 #[jF q.p,.int .i64 e] w fun r w'=>r=.returned (.tuple #[])∧j1 B q most flags κ (x.fail e) w w':=by
 have HB:=zh h
 have HS:=zh (h.setE e)
 obtain⟨vv,h1⟩:=h.row
 have c2:=jI h1 2 _ rfl
 have f2:=jE h1 2
 clear h1
 by_cases he:x.e=0
 ·have HX:Hid (x.fail e={x with e:=e}):=by show _=_;unfold BS.fail kL;rw[if_pos he]
  rw[he] at c2
  clear he
  go_enter func35,ntmps35
  go_wp2
  go_end0
  exact⟨rfl,by rw[HX.out];exact HS.out⟩
 ·have HX:Hid (x.fail e=x):=by show _=_;unfold BS.fail kL;rw[if_neg he]
  generalize hex:x.e=ex at *
  go_enter func35,ntmps35
  go_wp2
  go_end0
  exact⟨rfl,by rw[HX.out];exact HB.out.refl⟩
section
variable {B:Nat} {q:kN} {most flags:Int} {κ κ' κ0:Nat→Nat} {x x' y:BS} {w w' w2 w0:World} {Kp:List (Nat × Obj)}
theorem Env.at0 (h:Env B q most flags w0 κ0 Kp x w):w.cell? ⟨q.p,0,none⟩=some (jF q.b):=by obtain⟨vv,h1⟩:=h.row;exact jI h1 0 _ rfl
theorem Env.at1 (h:Env B q most flags w0 κ0 Kp x w):w.cell? ⟨q.p,1,none⟩=some (jF q.s):=by obtain⟨vv,h1⟩:=h.row;exact jI h1 1 _ rfl
theorem Bd.at1 (h:Bd B q most flags κ x w):w.cell? ⟨q.p,1,none⟩=some (jF q.s):=by obtain⟨vv,h1⟩:=h.row;exact jI h1 1 _ rfl
theorem Env.at2 (h:Env B q most flags w0 κ0 Kp x w):w.cell? ⟨q.p,2,none⟩=some (.int .i64 x.e):=by obtain⟨vv,h1⟩:=h.row;exact jI h1 2 _ rfl
theorem Env.at4 (h:Env B q most flags w0 κ0 Kp x w):w.cell? ⟨q.p,4,none⟩=some (jF q.k):=by obtain⟨vv,h1⟩:=h.row;exact jI h1 4 _ rfl
theorem Env.at5 (h:Env B q most flags w0 κ0 Kp x w):w.cell? ⟨q.p,5,none⟩=some (jF q.t):=by obtain⟨vv,h1⟩:=h.row;exact jI h1 5 _ rfl
theorem Env.at6 (h:Env B q most flags w0 κ0 Kp x w):w.cell? ⟨q.p,6,none⟩=some (jF q.l):=by obtain⟨vv,h1⟩:=h.row;exact jI h1 6 _ rfl
theorem Env.at7 (h:Env B q most flags w0 κ0 Kp x w):w.cell? ⟨q.p,7,none⟩=some (.map (some q.m)):=by obtain⟨vv,h1⟩:=h.row;exact jI h1 7 _ rfl
theorem Bd.at7 (h:Bd B q most flags κ x w):w.cell? ⟨q.p,7,none⟩=some (.map (some q.m)):=by obtain⟨vv,h1⟩:=h.row;exact jI h1 7 _ rfl
theorem Env.cell (h:Env B q most flags w0 κ0 Kp x w) {n:Nat} {cs:Array Value} {t:TypeId} (hm:(n,Obj.cells cs t (0,0))∈Kp) (k:Nat) (v:Value) (hv:cs[k]? = some v):w.cell? ⟨n,k,none⟩=some v:=jI (h.kp hm) k v hv
def yD (B:Nat) (q:kN) (most flags:Int) (w0:World) (κ0:Nat→Nat) (Kp:List (Nat × Obj)) (xs:List BS) (z:BS) (p:Nat) (w:World):Prop:=Env B q most flags w0 κ0 Kp (xs.getD p z) w
theorem yD.grew {xs:List BS} {z:BS}:∀(p:Nat) (w w':World),jA w w'→yD B q most flags w0 κ0 Kp xs z p w→yD B q most flags w0 κ0 Kp xs z p w':=fun _ _ _ hg h=>Env.grew h hg
def q7 (m:Nat) (φ:Value→World→Prop) (p:Nat) (v:Value) (w:World):Prop:=p≤m→φ v w
theorem q7.st {φ:Value→World→Prop} {T:Nat→World→World→Prop} (h:∀v w w',jA w w'→φ v w→φ v w'):(∀p v w w',jA w w'→q7 0 φ p v w→q7 0 φ p v w')∧∀p v w w',T p w w'→q7 0 φ p v w→q7 0 φ (p+1) v w':=
 ⟨fun p v w w' hg k hp=>h v w w' hg (k hp),fun p v w w' _ _ hp=>absurd hp (by omega)⟩
theorem buferr (h:Bd B q most flags κ x w):Calls prog 68 #[jF q.b] w fun r w'=>r=.returned (.int .i64 x.s.2)∧w'=w:=by
 obtain⟨_,o,h1,_⟩:=h.buf
 exact qB h1
theorem buflen (h:Bd B q most flags κ x w):Calls prog 46 #[jF q.b] w fun r w'=>r=.returned (.int .i64 x.s.1.length)∧w'=w:=by
 obtain⟨_,o,h1,_⟩:=h.buf
 exact yY h1
theorem stkpush (h:Bd B q most flags κ x w) (sv:Value) (v:V3) (hv:ValsAt w sv [v]) (hn:∀c,sv=.slice none 0 c→c=0) (hok:okV v):Calls prog 69 #[jF q.s,sv] w fun r w'=>r=.returned (.int .i64 (bT x.stk.length))∧j1 B q most flags κ {x with stk:=bU x.stk v} w w':=by
 unfold bT bU
 refine (pD sv h.stk h.ok.stk hv hn (by simp)).mono fun r w' hr=>⟨hr.1,?_⟩
 refine h.stk_step ?_ ?_ hr.2
 ·split
  ·rename_i hh;rw[List.length_append];exact hh
  ·exact h.ok.stk
 ·intro u hu
  split at hu
  ·rcases List.mem_append.1 hu with hu|hu
   ·exact h.ok.okS u hu
   ·simp at hu;subst hu;exact hok
  ·exact h.ok.okS u hu
end
theorem qR {B:Nat} {q:kN} {most flags:Int} {κ:Nat→Nat} {x:BS} {w:World} (v:V3) (hv:okV v) (h:Bd B q most flags κ x w):Calls prog 28 #[jF q.p,vV v] w fun r w'=>r=.returned (.tuple #[])∧j1 B q most flags κ (x.push v) w w':=by
 obtain⟨ty,wd,n⟩:=v
 have HV:=zh hv
 have HE:Hid (Env B q most flags w κ [(w.heap.size,.cells #[.int .i64 ty,.int .i64 wd,.int .u64 n] 65 (0,0))] x (w.alloc (.cells #[.int .i64 ty,.int .i64 wd,.int .u64 n] 65))):=(Env.start h).add _
 have HM:Hid ((w.heap.size,Obj.cells #[.int .i64 ty,.int .i64 wd,.int .u64 n] 65 (0,0))∈([(w.heap.size,.cells #[.int .i64 ty,.int .i64 wd,.int .u64 n] 65 (0,0))]:List (Nat × Obj))):=List.mem_singleton.2 rfl
 clear h hv
 show Calls prog 28 #[jF q.p,.agg #[.int .i64 ty,.int .i64 wd,.int .u64 n]] w _
 have c0:=HE.out.at0
 go_enter func28,ntmps28
 go_wp2_with fail
 generalize (w.alloc (.cells #[.int .i64 ty,.int .i64 wd,.int .u64 n] 65))=w1 at *
 refine (by obtain⟨κ1,hb,_⟩:=HE.out;exact buferr hb:Calls prog 68 #[jF q.b] w1 fun r w'=>r=.returned (.int .i64 x.s.2)∧w'=w1).mono ?_
 rintro r w1' ⟨rfl,hw1⟩
 subst hw1
 go_wp2_with fail
 refine (HE.out.call fun κ1 hb hz=>kV _ hb).mono ?_
 rintro r w2 ⟨rfl,he⟩
 have HE2:=zh he
 clear he c0
 have c2:=HE2.out.at2
 by_cases he:kL x.e x.s.2=0
 ·have HX:Hid (x.push (ty,wd,n)=({x.fail x.s.2 with stk:=bU x.stk (ty,wd,n)}:BS).fail (bT x.stk.length)):=by
   show _=_
   have h1:x.fail x.s.2={x with e:=0}:=by unfold BS.fail;rw[he]
   rw[h1]
   unfold BS.push
   rw[if_pos he]
   by_cases hr:x.stk.length+1≤65536
   ·simp only[bU,bT,if_pos hr];rfl
   ·simp only[bU,bT,if_neg hr];rfl
  rw[show (x.fail x.s.2).e=0 from he] at c2
  clear he
  go_wp2_with fail
  refine jM [7,8] (yD B q most flags w κ [(w.heap.size,.cells #[.int .i64 ty,.int .i64 wd,.int .u64 n] 65 (0,0))] [x.fail x.s.2,{x.fail x.s.2 with stk:=bU x.stk (ty,wd,n)}] (({x.fail x.s.2 with stk:=bU x.stk (ty,wd,n)}:BS).fail (bT x.stk.length))) (fun _ w w'=>jA w w') ((fun p (_:Nat→Value)=>(fun _ _ _=>True) p)) [[],[],[1],[1,2],[1,2,3],[],[5],[1,2,3,4,5,6],[0,1,2,3,4,5,6,7]] [[(17,1),(18,2),(19,3),(20,4),(21,5),(22,6),(23,7)],[(16,0),(21,5),(22,6)],[(16,0),(17,1),(21,5),(22,6)],[(16,0),(17,1),(18,2),(21,5),(22,6)],[(16,0),(17,1),(18,2),(19,3),(21,5),(22,6)],[(16,0),(17,1),(18,2),(19,3),(20,4)],[(16,0),(17,1),(18,2),(19,3),(20,4),(21,5)],[(16,0),(17,1),(18,2),(19,3),(20,4),(21,5),(22,6)],[(16,0),(17,1),(18,2),(19,3),(20,4),(21,5),(22,6),(23,7)]] [(16,0),(17,1),(18,2),(19,3),(20,4),(21,5),(22,6),(23,7),(24,8)]
   [IsP (jF q.p),IsP (jF q.p),IsP (jF q.p),IsP (.pointer (some ⟨q.p,1,none⟩)),IsP (jF q.s),IsP (.agg #[.int .i64 ty,.int .i64 wd,.int .u64 n]),q7 0 (fun v w=>(∃g,v=.slice (some ⟨g,0,none⟩) 1 1)∧ValsAt w v [(ty,wd,n)]),IsP (.int .i64 (bT x.stk.length)),IsP (.tuple #[])]
   zk (yD.grew) (HE2.out.grew (jA.refl _).drew) zk zk ⟨jC,jC,jC,jC,jC,jC,q9 (q7.st (fun v w w' hg h=>⟨h.1,h.2.grew hg⟩)),jC,jC,trivial⟩ rfl ?_ ?_
  ·intro y w2 hW hF
   simp only[zB,IsP,Nat.reduceAdd,List.length_cons,List.length_nil] at hF hW
   have h0:=hF.1
   have h1:=hF.2.1
   have h2:=hF.2.2.1
   have h3:=hF.2.2.2.1
   have h4:=hF.2.2.2.2.1
   have h5:=hF.2.2.2.2.2.1
   have h6:=hF.2.2.2.2.2.2.1
   have h7:=hF.2.2.2.2.2.2.2.1
   have h8:=hF.2.2.2.2.2.2.2.2.1
   clear hF
   simp only[jB,Act.put,zq1,zq2,zq3,zq4,zq5]
   simp only[h0,h1,h2,h3,h4,h5,h7,h8]
   clear h0 h1 h2 h3 h4 h5 h7 h8
   go_wp2
   go_end0
   exact⟨rfl,by rw[HX.out];exact Env.turn hW⟩
  refine⟨zqd,zqd,zqd,zqd,?_⟩
  refine⟨?_,?_⟩
  ·refine jH 0 0 ?_
   intro y w2 p hlo hhi hW hD K hK
   obtain rfl:p=0:=by omega
   have dd:=Env.at1 hW
   exact zqr
  refine⟨?_,?_⟩
  ·refine jH 0 0 ?_
   intro y w2 p hlo hhi hW hD K hK
   obtain rfl:p=0:=by omega
   have d0:=Env.cell hW HM.out 0 _ rfl
   have d1:=Env.cell hW HM.out 1 _ rfl
   have d2:=Env.cell hW HM.out 2 _ rfl
   exact zqr
  refine⟨?_,?_⟩
  ·refine jH 0 0 ?_
   intro y w2 p hlo hhi hW hD K hK
   simp only[jV,zq4,zq5,IsP] at hD
   generalize hAA:jB y _ _=AA at hK⊢
   simp only[jB,Act.put,zq1,zq2,zq3,zq4,zq5,IsP] at hAA
   subst hAA
   simp only[zq4,zq5,IsP] at hK
   simp only[hD] at hK⊢
   clear hD
   refine jL ?_
   go_simp
   exact hK _ _ _ rfl ((jA.refl _).alloc _) (fun _=>⟨⟨_,rfl⟩,vQ w2 (ty,wd,n)⟩)
  refine⟨?_,?_⟩
  ·refine jN 0 rfl ?_
   intro y w2 hW hD K hK
   simp only[jV,zq4,zq5,IsP] at hD
   have h1:=hD.1
   have h2:=hD.2.1
   have h3:=hD.2.2.1
   have h4:=hD.2.2.2.1
   have h5:=hD.2.2.2.2.1
   have h6:=hD.2.2.2.2.2.1
   clear hD
   generalize hAA:jB y _ _=AA at hK⊢
   simp only[jB,Act.put,zq1,zq2,zq3,zq4,zq5,IsP] at hAA
   subst hAA
   simp only[zq4,zq5,IsP] at hK
   simp only[h1,h2,h3,h4,h5] at hK⊢
   clear h1 h2 h3 h4 h5
   obtain⟨⟨g6,e6⟩,hv6⟩:=h6 (Nat.le_refl _)
   rw[e6] at hK hv6⊢
   refine jL ?_
   go_simp
   refine (Env.call hW fun κ1 hb hz=>stkpush hb (.slice (some ⟨g6,0,none⟩) 1 1) (ty,wd,n) hv6 (fun c e=>by cases e) HV.out).mono ?_
   rintro r w3 ⟨rfl,he⟩
   exact hK _ _ _ rfl trivial he rfl
  refine⟨?_,?_⟩
  ·refine jN 1 rfl ?_
   intro y w2 hW hD K hK
   simp only[jV,zq4,zq5,IsP] at hD
   have h0:=hD.1
   have h1:=hD.2.1
   have h2:=hD.2.2.1
   have h3:=hD.2.2.2.1
   have h4:=hD.2.2.2.2.1
   have h5:=hD.2.2.2.2.2.1
   have h6:=hD.2.2.2.2.2.2.1
   have h7:=hD.2.2.2.2.2.2.2.1
   clear hD
   generalize hAA:jB y _ _=AA at hK⊢
   simp only[jB,Act.put,zq1,zq2,zq3,zq4,zq5,IsP] at hAA
   subst hAA
   simp only[zq4,zq5,IsP] at hK
   simp only[h0,h1,h2,h3,h4,h5,h7] at hK⊢
   clear h0 h1 h2 h3 h4 h5 h7
   refine jL ?_
   go_simp
   refine (Env.call hW fun κ1 hb hz=>kV _ hb).mono ?_
   rintro r w3 ⟨rfl,he⟩
   exact hK _ _ _ rfl trivial he rfl
  trivial
 ·have HX:Hid (x.push (ty,wd,n)=x.fail x.s.2):=by
   show _=_
   unfold BS.push BS.fail
   rw[if_neg he]
  generalize hex:(x.fail x.s.2).e=ex at *
  have hne:¬ex=0:=by rw[← hex];exact he
  clear hex he
  go_wp2
  go_end0
  exact⟨rfl,by rw[HX.out];exact HE2.out.turn⟩
theorem xor_zero (n:Int) (h0 : -9223372036854775808≤n) (h1:n≤9223372036854775807):bits .xor .i64 n 0=n:=by
 unfold bits
 show IntKind.i64.wrap (((BitVec.ofInt 64 n) ^^^ (BitVec.ofInt 64 0)).toNat:Int)=_
 rw[show BitVec.ofInt 64 0=0#64 from rfl,BitVec.xor_zero,BitVec.toNat_ofInt]
 simp[IntKind.wrap,IntKind.bits,IntKind.signed]
 omega
theorem sJ (n:Int) (h0 : -9223372036854775808≤n) (h1:n≤9223372036854775807):bits .xor .i64 n (-1) = -n - 1:=by
 unfold bits
 show IntKind.i64.wrap (((BitVec.ofInt 64 n) ^^^ (BitVec.ofInt 64 (-1))).toNat:Int)=_
 rw[show BitVec.ofInt 64 (-1)=BitVec.allOnes 64 by decide,BitVec.xor_allOnes,BitVec.toNat_not,BitVec.toNat_ofInt]
 simp[IntKind.wrap,IntKind.bits,IntKind.signed]
 omega
theorem eI (n:Int) (m:Nat) (hm:m < 2 ^ 63) (h:(0≤n∧n=m)∨(n < 0∧-n - 1=m)):Ft.leastW (1+(Lib.bitLen m:Int))=ZX n:=by
 have hu:m < 2 ^ 64:=by omega
 have two:∀k:Nat,(Lib.bitLen m≤k∧m < 2 ^ k)∨(k < Lib.bitLen m∧2 ^ k≤m):=fun k=>by
  have h:=Ft.bitLen_le m k hu
  rcases Nat.lt_or_ge k (Lib.bitLen m) with h1|h1
  ·exact .inr ⟨h1,Nat.le_of_not_lt fun h2=>by have:=h.2 h2;omega⟩
  ·exact .inl ⟨h1,h.1 h1⟩
 have a:=two 7
 have b:=two 15
 have c:=two 31
 clear two
 generalize Lib.bitLen m=z at *
 unfold Ft.leastW ZX
 repeat' split
 all_goals omega
theorem pI (n:Int) (w:World) (h0 : -9223372036854775808≤n) (h1:n≤9223372036854775807):Calls prog 191 #[.int .i64 n] w fun r w'=>r=.returned (.int .i64 (ZX n))∧w=w':=by
 by_cases hn:0≤n
 ·obtain⟨m,rfl⟩:=Int.eq_ofNat_of_zero_le hn
  have hx:=xor_zero (m:Int) h0 h1
  have HW:=zh (eI (m:Int) m (by omega) (.inl ⟨hn,rfl⟩))
  have hbl:=(Ft.bitLen_le m 64 (by omega)).2 (by omega)
  have hwb:IntKind.i64.wrap (1+(Lib.bitLen m:Int))=1+Lib.bitLen m:=by rw[IntKind.wrap_i64];omega
  clear hbl
  have hd:(m:Int) / 9223372036854775808=0:=by omega
  have hwu:IntKind.u64.wrap (m:Int)=m:=by simp[IntKind.wrap,IntKind.bits,IntKind.signed];omega
  go_enter func191,ntmps191
  go_wp2_with fail
  refine (Tryz.bits_Len64 (m:Int) _ (by omega) (by omega)).mono ?_
  rintro r w1 ⟨rfl,rfl⟩
  go_wp2_with fail
  refine (Ft.least_any _ _).mono ?_
  rintro r w1 ⟨rfl,rfl⟩
  go_wp2
  go_ret
  exact⟨qA HW.out,rfl⟩
 ·obtain⟨m,hm⟩:=Int.eq_ofNat_of_zero_le (show 0≤-n - 1 by omega)
  have hx:=sJ n h0 h1
  rw[hm] at hx
  have HW:=zh (eI n m (by omega) (.inr ⟨by omega,hm⟩))
  have hbl:=(Ft.bitLen_le m 64 (by omega)).2 (by omega)
  have hwb:IntKind.i64.wrap (1+(Lib.bitLen m:Int))=1+Lib.bitLen m:=by rw[IntKind.wrap_i64];omega
  clear hbl
  have hd:n / 9223372036854775808 = -1:=by omega
  have hwu:IntKind.u64.wrap (m:Int)=m:=by simp[IntKind.wrap,IntKind.bits,IntKind.signed];omega
  have hm1:(m:Int)≤18446744073709551615:=by omega
  clear hm
  go_enter func191,ntmps191
  go_wp2_with fail
  refine (Tryz.bits_Len64 (m:Int) _ (by omega) hm1).mono ?_
  rintro r w1 ⟨rfl,rfl⟩
  go_wp2_with fail
  refine (Ft.least_any _ _).mono ?_
  rintro r w1 ⟨rfl,rfl⟩
  go_wp2
  go_ret
  exact⟨qA HW.out,rfl⟩
theorem b9 (n:Int) (w:World) (h0 : -9223372036854775808≤n) (h1:n≤9223372036854775807):Calls prog 176 #[.int .i64 n] w fun r w'=>r=.returned (vV (y4 n))∧jA w w':=by
 have jJ:=heap_alloc_new w (.cells #[.int .i64 0,.int .i64 0,.int .u64 0] 65)
 have hg:=(jA.refl w).alloc (.cells #[.int .i64 0,.int .i64 0,.int .u64 0] 65)
 have hwu:IntKind.u64.wrap n=n % 18446744073709551616:=by simp[IntKind.wrap,IntKind.bits,IntKind.signed]
 have f0:=jE jJ 0
 have f1:=jE jJ 1
 have f2:=jE jJ 2
 have c0:=jI jJ 0 _ rfl
 have c1:=jI jJ 1 _ rfl
 have c2:=jI jJ 2 _ rfl
 clear jJ hg
 go_enter func176,ntmps176
 go_wp2_with fail
 refine (pI n _ h0 h1).mono ?_
 rintro r w1 ⟨rfl,rfl⟩
 go_wp2
 refine bodyPost_ret (v:=vV (y4 n)) ?_ rfl ⟨rfl,(jA.refl w).alloc _⟩
 simp[results,results176,go_sem,c0,c1,c2,vV,y4]
theorem cA (u:Int) (w:World) (h0:0≤u) (h1:u≤18446744073709551615):Calls prog 55 #[.int .u64 u] w fun r w'=>r=.returned (vV (yR u))∧jA w w':=by
 have jJ:=heap_alloc_new w (.cells #[.int .i64 0,.int .i64 0,.int .u64 0] 65)
 have hg:=(jA.refl w).alloc (.cells #[.int .i64 0,.int .i64 0,.int .u64 0] 65)
 have f0:=jE jJ 0
 have f1:=jE jJ 1
 have f2:=jE jJ 2
 have c0:=jI jJ 0 _ rfl
 have c1:=jI jJ 1 _ rfl
 have c2:=jI jJ 2 _ rfl
 clear jJ hg
 go_enter func55,ntmps55
 go_wp2_with fail
 refine (Ft.widthOf_any u _ h0 h1).mono ?_
 rintro r w1 ⟨rfl,rfl⟩
 go_wp2
 refine bodyPost_ret (v:=vV (yR u)) ?_ rfl ⟨rfl,(jA.refl w).alloc _⟩
 simp[results,results55,go_sem,c0,c1,c2,vV,yR]
theorem zG {B:Nat} {q:kN} {most flags:Int} {κ:Nat→Nat} {x:BS} {w:World} (h:Bd B q most flags κ x w) (k:Nat) (cap:Array Value) (y:BS) (hy:x.e≠0→y=x) (he:∀w,(callFunc k cap).run prog w=.ok (.enter k cap) w)
 (hdo:x.e=0→Calls prog k cap w fun r w'=>r=.returned (.tuple #[])∧j1 B q most flags κ y w w') :
 Calls prog 26 #[jF q.p,.func (.func k) #[] cap] w fun r w'=>r=.returned (.tuple #[])∧j1 B q most flags κ y w w':=by
 have HB:=zh h
 have HD:=zh hdo
 have HY:=zh hy
 have HE:=zh (sI h)
 clear h hdo hy
 by_cases hx:x.e=0
 ·rw[hx] at HE
  have HX:=zh hx
  clear hx
  go_enter func26,ntmps26
  go_wp2_with fail
  refine HE.out.mono ?_
  rintro r w' ⟨rfl,rfl⟩
  go_wp2_with fail
  refine (HD.out HX.out).mono ?_
  rintro r w2 ⟨rfl,ht⟩
  have HT:=zh ht
  clear ht
  go_wp2
  go_end0
  exact⟨rfl,HT.out⟩
 ·have HX:=zh hx
  obtain⟨e,hee⟩:∃e,x.e=e:=⟨_,rfl⟩
  rw[hee] at HE
  have hne:¬e=0:=by rw[← hee];exact hx
  clear hx hee
  go_enter func26,ntmps26
  go_wp2_with fail
  refine HE.out.mono ?_
  rintro r w' ⟨rfl,rfl⟩
  go_wp2
  go_end0
  exact⟨rfl,by rw[HY.out HX.out];exact HB.out.refl⟩
section
variable {B:Nat} {q:kN} {most flags:Int} {κ0:Nat→Nat} {x y:BS} {w w0:World} {Kp:List (Nat × Obj)}
theorem Env.call' {f:Nat} {args:Array Value} {R:Ending→Prop} (h:Env B q most flags w0 κ0 Kp x w) (hc:∀κ,Bd B q most flags κ x w→Env B q most flags w κ Kp x w→Calls prog f args w fun r w'=>R r∧j1 B q most flags κ y w w') :
 Calls prog f args w fun r w'=>R r∧Env B q most flags w0 κ0 Kp y w':=by
 refine Env.call h fun κ hb hz=>hc κ hb ⟨κ,hb,Tn.refl _ _,fun z hm=>⟨?_,hz z hm⟩⟩
 obtain⟨_,_,_,h3⟩:=h
 exact (h3 z hm).1
end
theorem iU {B:Nat} {q:kN} {most flags:Int} {κ:Nat→Nat} {x:BS} {w:World} (n1 n2:Nat) (ty wd n:Int) (hv:okV (ty,wd,n)) (he:Env B q most flags w κ [(n2,Obj.cells #[.int .i64 ty,.int .i64 wd,.int .u64 n] 65 (0,0)),(n1,Obj.cells #[jF q.p] 26 (0,0))] x w):Calls prog 74 #[.pointer (some ⟨n1,0,none⟩),.pointer (some ⟨n2,0,none⟩)] w fun r w'=>r=.returned (.tuple #[])∧j1 B q most flags κ (x.push (ty,wd,n)) w w':=by
 have HE:=zh he
 clear he
 have HM2:Hid ((n2,Obj.cells #[.int .i64 ty,.int .i64 wd,.int .u64 n] 65 (0,0))∈([(n2,Obj.cells #[.int .i64 ty,.int .i64 wd,.int .u64 n] 65 (0,0)),(n1,Obj.cells #[jF q.p] 26 (0,0))]:List (Nat × Obj))):=List.mem_cons_self
 have HM1:Hid ((n1,Obj.cells #[jF q.p] 26 (0,0))∈([(n2,Obj.cells #[.int .i64 ty,.int .i64 wd,.int .u64 n] 65 (0,0)),(n1,Obj.cells #[jF q.p] 26 (0,0))]:List (Nat × Obj))):=List.mem_cons_of_mem _ List.mem_cons_self
 have HV:=zh hv
 clear hv
 go_enter func74,ntmps74
 go_wp2_with fail
 refine jM [4] (yD B q most flags w κ [(n2,Obj.cells #[.int .i64 ty,.int .i64 wd,.int .u64 n] 65 (0,0)),(n1,Obj.cells #[jF q.p] 26 (0,0))] [x] (x.push (ty,wd,n))) (fun _ w w'=>jA w w') ((fun p (_:Nat→Value)=>(fun _ _ _=>True) p)) [[],[0],[0,1],[],[0,1,2,3]] [[(5,3)],[(2,0),(5,3)],[(2,0),(3,1),(5,3)],[(2,0),(3,1),(4,2)],[(2,0),(3,1),(4,2),(5,3)]] [(2,0),(3,1),(4,2),(5,3),(6,4)]
  [IsP (jF q.p),IsP (jF q.p),IsP (jF q.p),IsP (.agg #[.int .i64 ty,.int .i64 wd,.int .u64 n]),IsP (.tuple #[])]
  zk (yD.grew) (HE.out.grew (jA.refl _).drew) zk zk ⟨jC,jC,jC,jC,jC,trivial⟩ rfl ?_ ?_
 ·intro y w2 hW hF
  simp only[zB,IsP,Nat.reduceAdd,List.length_cons,List.length_nil] at hF hW
  have h0:=hF.1
  have h1:=hF.2.1
  have h2:=hF.2.2.1
  have h3:=hF.2.2.2.1
  have h4:=hF.2.2.2.2.1
  clear hF
  simp only[jB,Act.put,zq1,zq2,zq3,zq4,zq5]
  simp only[h0,h1,h2,h3,h4]
  clear h0 h1 h2 h3 h4
  go_wp2
  go_end0
  exact⟨rfl,Env.turn hW⟩
 refine⟨?_,?_⟩
 ·refine jH 0 0 ?_
  intro y w2 p hlo hhi hW hD K hK
  obtain rfl:p=0:=by omega
  have d0:=Env.cell hW HM1.out 0 _ rfl
  exact zqr
 refine⟨zqd,zqd,?_⟩
 refine⟨?_,?_⟩
 ·refine jH 0 0 ?_
  intro y w2 p hlo hhi hW hD K hK
  obtain rfl:p=0:=by omega
  have d0:=Env.cell hW HM2.out 0 _ rfl
  have d1:=Env.cell hW HM2.out 1 _ rfl
  have d2:=Env.cell hW HM2.out 2 _ rfl
  exact zqr
 refine⟨?_,?_⟩
 ·refine jN 0 rfl ?_
  intro y w2 hW hD K hK
  simp only[jV,zq4,zq5,IsP] at hD
  have h0:=hD.1
  have h1:=hD.2.1
  have h2:=hD.2.2.1
  have h3:=hD.2.2.2.1
  clear hD
  generalize hAA:jB y _ _=AA at hK⊢
  simp only[jB,Act.put,zq1,zq2,zq3,zq4,zq5,IsP] at hAA
  subst hAA
  simp only[zq4,zq5,IsP] at hK
  simp only[h0,h1,h2,h3] at hK⊢
  clear h0 h1 h2 h3
  refine jL ?_
  go_simp
  refine (Env.call hW fun κ1 hb hz=>qR (ty,wd,n) HV.out hb).mono ?_
  rintro r w3 ⟨rfl,he⟩
  exact hK _ _ _ rfl trivial he rfl
 trivial
theorem inline_any {B:Nat} {q:kN} {most flags:Int} {κ:Nat→Nat} {x:BS} {w:World} (v:V3) (hv:okV v) (h:Bd B q most flags κ x w):Calls prog 30 #[jF q.p,vV v] w fun r w'=>r=.returned (.tuple #[])∧j1 B q most flags κ (x.inline v) w w':=by
 obtain⟨ty,wd,n⟩:=v
 have HV:=zh hv
 have HE:Hid (Env B q most flags w κ [(w.heap.size+1,Obj.cells #[.int .i64 ty,.int .i64 wd,.int .u64 n] 65 (0,0)),(w.heap.size,Obj.cells #[jF q.p] 26 (0,0))] x ((w.alloc (.cells #[jF q.p] 26)).alloc (.cells #[.int .i64 ty,.int .i64 wd,.int .u64 n] 65))):=by
  have hh:=((Env.start h).add (.cells #[jF q.p] 26)).add (.cells #[.int .i64 ty,.int .i64 wd,.int .u64 n] 65)
  simp only[World.size_alloc,Nat.add_assoc,Nat.reduceAdd] at hh
  exact hh
 clear h hv
 show Calls prog 30 #[jF q.p,.agg #[.int .i64 ty,.int .i64 wd,.int .u64 n]] w _
 go_enter func30,ntmps30
 go_wp2_with fail
 refine (HE.out.call' fun κ1 hb he=>zG hb _ _ (x.inline (ty,wd,n)) (fun hx=>by unfold BS.inline;rw[if_neg hx]) (fun _=>enters_of func74 zk rfl _ _) (fun hx=>by unfold BS.inline;rw[if_pos hx];exact iU _ _ ty wd n HV.out he)).mono ?_
 rintro r w5 ⟨rfl,he⟩
 have HT:=zh he
 clear he
 go_wp2
 go_end0
 exact⟨rfl,HT.out.turn⟩
theorem aQ (n:Int) (h0 : -9223372036854775808≤n) (h1:n≤9223372036854775807):okV (y4 n):=by unfold okV y4;dsimp only;omega
theorem aR (u:Int) (h0:0≤u) (h1:u≤18446744073709551615):okV (yR u):=by unfold okV yR;dsimp only;omega
theorem eJ (b:Bool):okV (zU b):=by unfold okV zU;cases b<;>simp
theorem cB (b:Bool) (w:World):Calls prog 175 #[.bool b] w fun r w'=>r=.returned (vV (zU b))∧jA w w':=by
 have hg:=(jA.refl w).alloc (.cells #[.int .i64 0,.int .i64 0,.int .u64 0] 65)
 cases b
 all_goals
  go_enter func175,ntmps175
  go_wp2
  refine bodyPost_ret (v:=vV (zU _)) ?_ rfl ⟨rfl,?_⟩
  ·simp[results,results175,go_sem,vV,zU]
  ·exact ((jA.refl w).alloc _).alloc _
theorem pJ {B:Nat} {q:kN} {most flags:Int} {κ:Nat→Nat} {x:BS} {w:World}  (h:Bd B q most flags κ x w):Calls prog 11 #[jF q.p] w fun r w'=>r=.returned (.tuple #[])∧j1 B q most flags κ (x.inline ((0,1,0))) w w':=by
 have HE:=zh h
 clear h
 go_enter func11,ntmps11
 go_wp2_with fail
 refine (inline_any ((0,1,0)) (by unfold okV;simp) HE.out).mono ?_
 rintro r w2 ⟨rfl,ht⟩
 have HT:=zh ht
 clear ht
 go_wp2
 go_end0
 exact⟨rfl,HT.out⟩
theorem pK {B:Nat} {q:kN} {most flags:Int} {κ:Nat→Nat} {x:BS} {w:World} (b:Bool) (h:Bd B q most flags κ x w):Calls prog 131 #[jF q.p,.bool b] w fun r w'=>r=.returned (.tuple #[])∧j1 B q most flags κ (x.inline (zU b)) w w':=by
 have HE:=zh h
 clear h
 go_enter func131,ntmps131
 go_wp2_with fail
 refine (cB b _).mono ?_
 rintro r w1 ⟨rfl,hg⟩
 have HG:=zh hg
 clear hg
 go_wp2_with fail
 refine (inline_any (zU b) (eJ b) (HE.out.grew HG.out)).mono ?_
 rintro r w2 ⟨rfl,ht⟩
 have HT:=zh ht
 clear ht
 go_wp2
 go_end0
 exact⟨rfl,HT.out.after HG.out⟩
theorem sK {B:Nat} {q:kN} {most flags:Int} {κ:Nat→Nat} {x:BS} {w:World} (n:Int) (h0 : -9223372036854775808≤n) (h1:n≤9223372036854775807) (h:Bd B q most flags κ x w):Calls prog 132 #[jF q.p,.int .i64 n] w fun r w'=>r=.returned (.tuple #[])∧j1 B q most flags κ (x.inline (y4 n)) w w':=by
 have HE:=zh h
 clear h
 go_enter func132,ntmps132
 go_wp2_with fail
 refine (b9 n _ h0 h1).mono ?_
 rintro r w1 ⟨rfl,hg⟩
 have HG:=zh hg
 clear hg
 go_wp2_with fail
 refine (inline_any (y4 n) (aQ n h0 h1) (HE.out.grew HG.out)).mono ?_
 rintro r w2 ⟨rfl,ht⟩
 have HT:=zh ht
 clear ht
 go_wp2
 go_end0
 exact⟨rfl,HT.out.after HG.out⟩
theorem eK {B:Nat} {q:kN} {most flags:Int} {κ:Nat→Nat} {x:BS} {w:World} (u:Int) (h0:0≤u) (h1:u≤18446744073709551615) (h:Bd B q most flags κ x w):Calls prog 16 #[jF q.p,.int .u64 u] w fun r w'=>r=.returned (.tuple #[])∧j1 B q most flags κ (x.inline (yR u)) w w':=by
 have HE:=zh h
 clear h
 go_enter func16,ntmps16
 go_wp2_with fail
 refine (cA u _ h0 h1).mono ?_
 rintro r w1 ⟨rfl,hg⟩
 have HG:=zh hg
 clear hg
 go_wp2_with fail
 refine (inline_any (yR u) (aR u h0 h1) (HE.out.grew HG.out)).mono ?_
 rintro r w2 ⟨rfl,ht⟩
 have HT:=zh ht
 clear ht
 go_wp2
 go_end0
 exact⟨rfl,HT.out.after HG.out⟩
section
variable {B:Nat} {q:kN} {most flags:Int} {κ0:Nat→Nat} {x:BS} {w w0:World} {Kp:List (Nat × Obj)}
theorem Env.buflen (h:Env B q most flags w0 κ0 Kp x w):Calls prog 46 #[jF q.b] w fun r w'=>r=.returned (.int .i64 x.s.1.length)∧w'=w:=by
 obtain⟨κ,hb,_⟩:=h
 exact Go.Proofs.YtjnpcddbgfmpcaaGreatDoor.buflen hb
theorem Env.buferr (h:Env B q most flags w0 κ0 Kp x w):Calls prog 68 #[jF q.b] w fun r w'=>r=.returned (.int .i64 x.s.2)∧w'=w:=by
 obtain⟨κ,hb,_⟩:=h
 exact Go.Proofs.YtjnpcddbgfmpcaaGreatDoor.buferr hb
theorem Env.ok (h:Env B q most flags w0 κ0 Kp x w):x.Ok most:=by obtain⟨κ,hb,_⟩:=h;exact hb.ok
theorem Env.len (h:Env B q most flags w0 κ0 Kp x w):x.s.1.length≤1048576:=by have:=h.ok.len;have:=h.ok.m1;omega
end
theorem iV (n x:Int) (w:World) (hx:isW x=true) (n0:0≤n) (n1:n≤18446744073709551615):Calls prog 49 #[.int .u64 n,.int .i64 x] w fun r w'=>r=.returned (.int .u64 (kY n x))∧w'=w:=by
 rcases kJ hx with rfl|rfl|rfl|rfl
 all_goals
  clear hx
  go_enter func49,ntmps49
  go_wp2
  go_ret
  refine⟨qA ?_,rfl⟩
  unfold kY
  first
   | (show n=_;rw[Int.emod_eq_of_lt n0 (by simp;omega)])
   | (show IntKind.u64.wrap _ / _=_
      simp[IntKind.wrap,IntKind.bits,IntKind.signed]
      omega)
theorem K7 (n:Nat) (h:n≤1048576):IntKind.u64.wrap (n:Int)=n:=by simp[IntKind.wrap,IntKind.bits,IntKind.signed];omega
theorem mU {B:Nat} {q:kN} {most flags:Int} {κ:Nat→Nat} {x:BS} {w:World} (n1 n2 n3:Nat) (t ty wd u:Int) (hw:isW wd=true) (hv:okV (ty,wd,u)) (ht0 : -9223372036854775808≤t) (ht1:t≤9223372036854775807) (hx:x.e=0) (he:Env B q most flags w κ [(n3,Obj.cells #[.int .i64 ty,.int .i64 wd,.int .u64 u] 65 (0,0)),(n2,Obj.cells #[.int .i64 t] 3 (0,0)),(n1,Obj.cells #[jF q.p] 26 (0,0))] x w):Calls prog 192 #[.pointer (some ⟨n1,0,none⟩),.pointer (some ⟨n3,0,none⟩),.pointer (some ⟨n2,0,none⟩)] w fun r w'=>r=.returned (.tuple #[])∧j1 B q most flags κ (x.apart most t (ty,wd,u)) w w':=by
 have HE:=zh he
 have HY:Hid (x.apart most t (ty,wd,u)=(BS.push (t,wd,((jG most wd x.s).1.length:Int)) {x with s:=jW most wd (kY u wd) (jG most wd x.s)})):=by show _=_;unfold BS.apart;rw[if_pos hx]
 have HIW:=zh hw
 have HU:Hid (0≤u∧u≤18446744073709551615):=by unfold okV at hv;dsimp only at hv;show _∧_;omega
 have HLO:=zh (KW (x:=wd) HU.out.1 HU.out.2)
 have HLN:Hid ((jG most wd x.s).1.length≤1048576):=by have h1:=kT (x:=wd) he.ok.len;have h2:=he.ok.m1;show _≤_;omega
 have HVT:Hid (okV (t,wd,((jG most wd x.s).1.length:Int))):=by have h:=HLN.out;show (0:Int)≤((jG most wd x.s).1.length:Int)∧((jG most wd x.s).1.length:Int)≤18446744073709551615;omega
 have hwa:=K7 _ HLN.out
 have HM3:Hid ((n3,Obj.cells #[.int .i64 ty,.int .i64 wd,.int .u64 u] 65 (0,0))∈([(n3,Obj.cells #[.int .i64 ty,.int .i64 wd,.int .u64 u] 65 (0,0)),(n2,Obj.cells #[.int .i64 t] 3 (0,0)),(n1,Obj.cells #[jF q.p] 26 (0,0))]:List (Nat × Obj))):=List.mem_cons_self
 have HM2:Hid ((n2,Obj.cells #[.int .i64 t] 3 (0,0))∈([(n3,Obj.cells #[.int .i64 ty,.int .i64 wd,.int .u64 u] 65 (0,0)),(n2,Obj.cells #[.int .i64 t] 3 (0,0)),(n1,Obj.cells #[jF q.p] 26 (0,0))]:List (Nat × Obj))):=List.mem_cons_of_mem _ (List.mem_cons_self)
 have HM1:Hid ((n1,Obj.cells #[jF q.p] 26 (0,0))∈([(n3,Obj.cells #[.int .i64 ty,.int .i64 wd,.int .u64 u] 65 (0,0)),(n2,Obj.cells #[.int .i64 t] 3 (0,0)),(n1,Obj.cells #[jF q.p] 26 (0,0))]:List (Nat × Obj))):=List.mem_cons_of_mem _ (List.mem_cons_of_mem _ (List.mem_cons_self))
 clear he hw hv ht0 ht1 hx
 go_enter func192,ntmps192
 go_wp2_with fail
 refine jM [7] (yD B q most flags w κ [(n3,Obj.cells #[.int .i64 ty,.int .i64 wd,.int .u64 u] 65 (0,0)),(n2,Obj.cells #[.int .i64 t] 3 (0,0)),(n1,Obj.cells #[jF q.p] 26 (0,0))] [x] ({x with s:=jG most wd x.s})) (fun _ w w'=>jA w w') ((fun p (_:Nat→Value)=>(fun _ _ _=>True) p)) [[],[0],[0,1],[0,1,2],[0,1,2,3],[],[5],[0,1,2,3,4,5,6]] [[(9,5),(10,6)],[(4,0),(9,5),(10,6)],[(4,0),(5,1),(9,5),(10,6)],[(4,0),(5,1),(6,2),(9,5),(10,6)],[(4,0),(5,1),(6,2),(7,3),(9,5),(10,6)],[(4,0),(5,1),(6,2),(7,3),(8,4)],[(4,0),(5,1),(6,2),(7,3),(8,4),(9,5)],[(4,0),(5,1),(6,2),(7,3),(8,4),(9,5),(10,6)]] [(4,0),(5,1),(6,2),(7,3),(8,4),(9,5),(10,6),(11,7)]
  [IsP (jF q.p),IsP (jF q.p),IsP (jF q.p),IsP (jF q.p),IsP (jF q.b),IsP (.pointer (some ⟨n3,1,none⟩)),IsP (.int .i64 wd),IsP (.tuple #[])]
  zk (yD.grew) (HE.out.grew (jA.refl _).drew) zk zk ⟨jC,jC,jC,jC,jC,jC,jC,jC,trivial⟩ rfl ?_ ?_
 ·intro y w2 hW hF
  simp only[zB,IsP,Nat.reduceAdd,List.length_cons,List.length_nil] at hF hW
  have h0:=hF.1
  have h1:=hF.2.1
  have h2:=hF.2.2.1
  have h3:=hF.2.2.2.1
  have h4:=hF.2.2.2.2.1
  have h5:=hF.2.2.2.2.2.1
  have h6:=hF.2.2.2.2.2.2.1
  have h7:=hF.2.2.2.2.2.2.2.1
  clear hF
  simp only[jB,Act.put,zq1,zq2,zq3,zq4,zq5]
  simp only[h0,h1,h2,h3,h4,h5,h6,h7]
  clear h0 h1 h2 h3 h4 h5 h6 h7
  have HE1:Hid (Env B q most flags w κ [(n3,Obj.cells #[.int .i64 ty,.int .i64 wd,.int .u64 u] 65 (0,0)),(n2,Obj.cells #[.int .i64 t] 3 (0,0)),(n1,Obj.cells #[jF q.p] 26 (0,0))] ({x with s:=jG most wd x.s}) w2):=hW
  have c0:=HE1.out.at0
  have cb:=Env.cell HE1.out HM1.out 0 _ rfl
  go_wp2_with fail
  refine HE1.out.buflen.mono ?_
  rintro r w9 ⟨rfl,hw9⟩
  obtain rfl:w2=w9:=hw9.symm
  clear c0 cb
  go_wp2_with fail
  refine jM [12] (yD B q most flags w κ [(n3,Obj.cells #[.int .i64 ty,.int .i64 wd,.int .u64 u] 65 (0,0)),(n2,Obj.cells #[.int .i64 t] 3 (0,0)),(n1,Obj.cells #[jF q.p] 26 (0,0))] [{x with s:=jG most wd x.s}] ({x with s:=jW most wd (kY u wd) (jG most wd x.s)})) (fun _ w w'=>jA w w') ((fun p (_:Nat→Value)=>(fun _ _ _=>True) p)) [[],[0],[0,1],[0,1,2],[0,1,2,3],[],[5],[],[7],[],[9],[7,8,9,10],[0,1,2,3,4,5,6,7,8,9,10,11]] [[(23,5),(24,6),(25,7),(26,8),(27,9),(28,10),(29,11)],[(18,0),(23,5),(24,6),(25,7),(26,8),(27,9),(28,10),(29,11)],[(18,0),(19,1),(23,5),(24,6),(25,7),(26,8),(27,9),(28,10),(29,11)],[(18,0),(19,1),(20,2),(23,5),(24,6),(25,7),(26,8),(27,9),(28,10),(29,11)],[(18,0),(19,1),(20,2),(21,3),(23,5),(24,6),(25,7),(26,8),(27,9),(28,10),(29,11)],[(18,0),(19,1),(20,2),(21,3),(22,4),(25,7),(26,8),(27,9),(28,10),(29,11)],[(18,0),(19,1),(20,2),(21,3),(22,4),(23,5),(25,7),(26,8),(27,9),(28,10),(29,11)],[(18,0),(19,1),(20,2),(21,3),(22,4),(23,5),(24,6),(27,9),(28,10)],[(18,0),(19,1),(20,2),(21,3),(22,4),(23,5),(24,6),(25,7),(27,9),(28,10)],[(18,0),(19,1),(20,2),(21,3),(22,4),(23,5),(24,6),(25,7),(26,8)],[(18,0),(19,1),(20,2),(21,3),(22,4),(23,5),(24,6),(25,7),(26,8),(27,9)],[(18,0),(19,1),(20,2),(21,3),(22,4),(23,5),(24,6),(25,7),(26,8),(27,9),(28,10)],[(18,0),(19,1),(20,2),(21,3),(22,4),(23,5),(24,6),(25,7),(26,8),(27,9),(28,10),(29,11)]] [(18,0),(19,1),(20,2),(21,3),(22,4),(23,5),(24,6),(25,7),(26,8),(27,9),(28,10),(29,11),(30,12)]
   [IsP (jF q.p),IsP (jF q.p),IsP (jF q.p),IsP (jF q.p),IsP (jF q.b),IsP (.pointer (some ⟨n3,1,none⟩)),IsP (.int .i64 wd),IsP (.pointer (some ⟨n3,2,none⟩)),IsP (.int .u64 u),IsP (.pointer (some ⟨n3,1,none⟩)),IsP (.int .i64 wd),IsP (.int .u64 (kY u wd)),IsP (.tuple #[])]
   zk (yD.grew) (HE1.out.grew (jA.refl _).drew) zk zk ⟨jC,jC,jC,jC,jC,jC,jC,jC,jC,jC,jC,jC,jC,trivial⟩ rfl ?_ ?_
  ·intro y w2 hW hF
   simp only[zB,IsP,Nat.reduceAdd,List.length_cons,List.length_nil] at hF hW
   have h0:=hF.1
   have h1:=hF.2.1
   have h2:=hF.2.2.1
   have h3:=hF.2.2.2.1
   have h4:=hF.2.2.2.2.1
   have h5:=hF.2.2.2.2.2.1
   have h6:=hF.2.2.2.2.2.2.1
   have h7:=hF.2.2.2.2.2.2.2.1
   have h8:=hF.2.2.2.2.2.2.2.2.1
   have h9:=hF.2.2.2.2.2.2.2.2.2.1
   have h10:=hF.2.2.2.2.2.2.2.2.2.2.1
   have h11:=hF.2.2.2.2.2.2.2.2.2.2.2.1
   have h12:=hF.2.2.2.2.2.2.2.2.2.2.2.2.1
   clear hF
   simp only[jB,Act.put,zq1,zq2,zq3,zq4,zq5]
   simp only[h0,h1,h2,h3,h4,h5,h6,h7,h8,h9,h10,h11,h12]
   clear h0 h1 h2 h3 h4 h5 h6 h7 h8 h9 h10 h11 h12
   have HE2:Hid (Env B q most flags w κ [(n3,Obj.cells #[.int .i64 ty,.int .i64 wd,.int .u64 u] 65 (0,0)),(n2,Obj.cells #[.int .i64 t] 3 (0,0)),(n1,Obj.cells #[jF q.p] 26 (0,0))] ({x with s:=jW most wd (kY u wd) (jG most wd x.s)}) w2):=hW
   go_wp2_with fail
   refine jM [9] (yD B q most flags w κ [(n3,Obj.cells #[.int .i64 ty,.int .i64 wd,.int .u64 u] 65 (0,0)),(n2,Obj.cells #[.int .i64 t] 3 (0,0)),(n1,Obj.cells #[jF q.p] 26 (0,0))] [{x with s:=jW most wd (kY u wd) (jG most wd x.s)}] ((BS.push (t,wd,((jG most wd x.s).1.length:Int)) {x with s:=jW most wd (kY u wd) (jG most wd x.s)}))) (fun _ w w'=>jA w w') ((fun p (_:Nat→Value)=>(fun _ _ _=>True) p)) [[],[0],[0,1],[],[],[4],[],[6],[3,4,5,6,7],[0,1,2,3,4,5,6,7,8]] [[(34,3),(35,4),(36,5),(37,6),(38,7),(39,8)],[(31,0),(34,3),(35,4),(36,5),(37,6),(38,7),(39,8)],[(31,0),(32,1),(34,3),(35,4),(36,5),(37,6),(38,7),(39,8)],[(31,0),(32,1),(33,2),(35,4),(36,5),(37,6),(38,7)],[(31,0),(32,1),(33,2),(34,3),(37,6),(38,7)],[(31,0),(32,1),(33,2),(34,3),(35,4),(37,6),(38,7)],[(31,0),(32,1),(33,2),(34,3),(35,4),(36,5)],[(31,0),(32,1),(33,2),(34,3),(35,4),(36,5),(37,6)],[(31,0),(32,1),(33,2),(34,3),(35,4),(36,5),(37,6),(38,7)],[(31,0),(32,1),(33,2),(34,3),(35,4),(36,5),(37,6),(38,7),(39,8)]] [(31,0),(32,1),(33,2),(34,3),(35,4),(36,5),(37,6),(38,7),(39,8),(40,9)]
    [IsP (jF q.p),IsP (jF q.p),IsP (jF q.p),IsP (.int .i64 t),IsP (.pointer (some ⟨n3,1,none⟩)),IsP (.int .i64 wd),IsP (.int .i64 (jG most wd x.s).1.length),IsP (.int .u64 (jG most wd x.s).1.length),IsP (.agg #[.int .i64 t,.int .i64 wd,.int .u64 (jG most wd x.s).1.length]),IsP (.tuple #[])]
    zk (yD.grew) (HE2.out.grew (jA.refl _).drew) zk zk ⟨jC,jC,jC,jC,jC,jC,jC,jC,jC,jC,trivial⟩ rfl ?_ ?_
   ·intro y w2 hW hF
    simp only[zB,IsP,Nat.reduceAdd,List.length_cons,List.length_nil] at hF hW
    have h0:=hF.1
    have h1:=hF.2.1
    have h2:=hF.2.2.1
    have h3:=hF.2.2.2.1
    have h4:=hF.2.2.2.2.1
    have h5:=hF.2.2.2.2.2.1
    have h6:=hF.2.2.2.2.2.2.1
    have h7:=hF.2.2.2.2.2.2.2.1
    have h8:=hF.2.2.2.2.2.2.2.2.1
    have h9:=hF.2.2.2.2.2.2.2.2.2.1
    clear hF
    simp only[jB,Act.put,zq1,zq2,zq3,zq4,zq5]
    simp only[h0,h1,h2,h3,h4,h5,h6,h7,h8,h9]
    clear h0 h1 h2 h3 h4 h5 h6 h7 h8 h9
    go_wp2
    go_end0
    exact⟨rfl,by rw[HY.out];exact Env.turn hW⟩
   refine⟨?_,?_⟩
   ·refine jH 0 0 ?_
    intro y w2 p hlo hhi hW hD K hK
    obtain rfl:p=0:=by omega
    have d10:=Env.cell hW HM1.out 0 _ rfl
    exact zqr
   refine⟨zqd,zqd,?_⟩
   refine⟨?_,?_⟩
   ·refine jH 0 0 ?_
    intro y w2 p hlo hhi hW hD K hK
    obtain rfl:p=0:=by omega
    have d20:=Env.cell hW HM2.out 0 _ rfl
    exact zqr
   refine⟨zqd,?_⟩
   refine⟨?_,?_⟩
   ·refine jH 0 0 ?_
    intro y w2 p hlo hhi hW hD K hK
    obtain rfl:p=0:=by omega
    have d31:=Env.cell hW HM3.out 1 _ rfl
    exact zqr
   refine⟨zqd,zqd,zqd,?_⟩
   refine⟨?_,?_⟩
   ·refine jN 0 rfl ?_
    intro y w2 hW hD K hK
    simp only[jV,zq4,zq5,IsP] at hD
    have h0:=hD.1
    have h1:=hD.2.1
    have h2:=hD.2.2.1
    have h3:=hD.2.2.2.1
    have h4:=hD.2.2.2.2.1
    have h5:=hD.2.2.2.2.2.1
    have h6:=hD.2.2.2.2.2.2.1
    have h7:=hD.2.2.2.2.2.2.2.1
    have h8:=hD.2.2.2.2.2.2.2.2.1
    clear hD
    generalize hAA:jB y _ _=AA at hK⊢
    simp only[jB,Act.put,zq1,zq2,zq3,zq4,zq5,IsP] at hAA
    subst hAA
    simp only[zq4,zq5,IsP] at hK
    simp only[h0,h1,h2,h3,h4,h5,h6,h7,h8] at hK⊢
    clear h0 h1 h2 h3 h4 h5 h6 h7 h8
    refine jL ?_
    go_simp
    refine (Env.call hW fun κ1 hb hz=>qR (t,wd,((jG most wd x.s).1.length:Int)) HVT.out hb).mono ?_
    rintro r w3 ⟨rfl,he⟩
    exact hK _ _ _ rfl trivial he rfl
   trivial
  refine⟨?_,?_⟩
  ·refine jH 0 0 ?_
   intro y w2 p hlo hhi hW hD K hK
   obtain rfl:p=0:=by omega
   have d10:=Env.cell hW HM1.out 0 _ rfl
   exact zqr
  refine⟨zqd,zqd,zqd,?_⟩
  refine⟨?_,?_⟩
  ·refine jH 0 0 ?_
   intro y w2 p hlo hhi hW hD K hK
   obtain rfl:p=0:=by omega
   have dd:=Env.at0 hW
   exact zqr
  refine⟨zqd,?_⟩
  refine⟨?_,?_⟩
  ·refine jH 0 0 ?_
   intro y w2 p hlo hhi hW hD K hK
   obtain rfl:p=0:=by omega
   have d31:=Env.cell hW HM3.out 1 _ rfl
   exact zqr
  refine⟨zqd,?_⟩
  refine⟨?_,?_⟩
  ·refine jH 0 0 ?_
   intro y w2 p hlo hhi hW hD K hK
   obtain rfl:p=0:=by omega
   have d32:=Env.cell hW HM3.out 2 _ rfl
   exact zqr
  refine⟨zqd,?_⟩
  refine⟨?_,?_⟩
  ·refine jH 0 0 ?_
   intro y w2 p hlo hhi hW hD K hK
   obtain rfl:p=0:=by omega
   have d31:=Env.cell hW HM3.out 1 _ rfl
   exact zqr
  refine⟨?_,?_⟩
  ·refine jH 0 0 ?_
   intro y w2 p hlo hhi hW hD K hK
   simp only[jV,zq4,zq5,IsP] at hD
   generalize hAA:jB y _ _=AA at hK⊢
   simp only[jB,Act.put,zq1,zq2,zq3,zq4,zq5,IsP] at hAA
   subst hAA
   simp only[zq4,zq5,IsP] at hK
   simp only[hD] at hK⊢
   clear hD
   refine jL ?_
   go_simp
   refine (iV u wd w2 HIW.out HU.out.1 HU.out.2).mono ?_
   rintro r w3 ⟨rfl,hw3⟩
   exact hK _ _ _ rfl (by rw[hw3];exact jA.refl _) rfl
  refine⟨?_,?_⟩
  ·refine jN 0 rfl ?_
   intro y w2 hW hD K hK
   simp only[jV,zq4,zq5,IsP] at hD
   have h0:=hD.1
   have h1:=hD.2.1
   have h2:=hD.2.2.1
   have h3:=hD.2.2.2.1
   have h4:=hD.2.2.2.2.1
   have h5:=hD.2.2.2.2.2.1
   have h6:=hD.2.2.2.2.2.2.1
   have h7:=hD.2.2.2.2.2.2.2.1
   have h8:=hD.2.2.2.2.2.2.2.2.1
   have h9:=hD.2.2.2.2.2.2.2.2.2.1
   have h10:=hD.2.2.2.2.2.2.2.2.2.2.1
   have h11:=hD.2.2.2.2.2.2.2.2.2.2.2.1
   clear hD
   generalize hAA:jB y _ _=AA at hK⊢
   simp only[jB,Act.put,zq1,zq2,zq3,zq4,zq5,IsP] at hAA
   subst hAA
   simp only[zq4,zq5,IsP] at hK
   simp only[h0,h1,h2,h3,h4,h5,h6,h7,h8,h9,h10,h11] at hK⊢
   clear h0 h1 h2 h3 h4 h5 h6 h7 h8 h9 h10 h11
   refine jL ?_
   go_simp
   refine (Env.call hW fun κ1 hb hz=>hb.buf_calls (x:={x with s:=jG most wd x.s}) (yA hb.ok.len) (fun o ho _=>yT (jG most wd x.s) wd (kY u wd) ho (Nat.zero_le _) hb.ok.len hb.ok.m1 HLO.out.1 HLO.out.2)).mono ?_
   rintro r w3 ⟨rfl,he⟩
   exact hK _ _ _ rfl trivial he rfl
  trivial
 refine⟨?_,?_⟩
 ·refine jH 0 0 ?_
  intro y w2 p hlo hhi hW hD K hK
  obtain rfl:p=0:=by omega
  have d10:=Env.cell hW HM1.out 0 _ rfl
  exact zqr
 refine⟨zqd,zqd,zqd,?_⟩
 refine⟨?_,?_⟩
 ·refine jH 0 0 ?_
  intro y w2 p hlo hhi hW hD K hK
  obtain rfl:p=0:=by omega
  have dd:=Env.at0 hW
  exact zqr
 refine⟨zqd,?_⟩
 refine⟨?_,?_⟩
 ·refine jH 0 0 ?_
  intro y w2 p hlo hhi hW hD K hK
  obtain rfl:p=0:=by omega
  have d31:=Env.cell hW HM3.out 1 _ rfl
  exact zqr
 refine⟨?_,?_⟩
 ·refine jN 0 rfl ?_
  intro y w2 hW hD K hK
  simp only[jV,zq4,zq5,IsP] at hD
  have h0:=hD.1
  have h1:=hD.2.1
  have h2:=hD.2.2.1
  have h3:=hD.2.2.2.1
  have h4:=hD.2.2.2.2.1
  have h5:=hD.2.2.2.2.2.1
  have h6:=hD.2.2.2.2.2.2.1
  clear hD
  generalize hAA:jB y _ _=AA at hK⊢
  simp only[jB,Act.put,zq1,zq2,zq3,zq4,zq5,IsP] at hAA
  subst hAA
  simp only[zq4,zq5,IsP] at hK
  simp only[h0,h1,h2,h3,h4,h5,h6] at hK⊢
  clear h0 h1 h2 h3 h4 h5 h6
  refine jL ?_
  go_simp
  refine (Env.call hW fun κ1 hb hz=>hb.buf_calls (kT hb.ok.len) (fun o ho _=>vD x.s wd ho (Nat.zero_le _) hb.ok.len hb.ok.m1)).mono ?_
  rintro r w3 ⟨rfl,he⟩
  exact hK _ _ _ rfl trivial he rfl
 trivial
theorem eL {B:Nat} {q:kN} {most flags:Int} {κ:Nat→Nat} {x:BS} {w:World} (t:Int) (v:V3) (hw:isW v.2.1=true) (hv:okV v) (ht0 : -9223372036854775808≤t) (ht1:t≤9223372036854775807) (h:Bd B q most flags κ x w):Calls prog 177 #[jF q.p,.int .i64 t,vV v] w fun r w'=>r=.returned (.tuple #[])∧j1 B q most flags κ (x.apart most t v) w w':=by
 obtain⟨ty,wd,u⟩:=v
 have HV:=zh hv
 have HIW:Hid (isW wd=true):=hw
 have HT0:=zh (And.intro ht0 ht1)
 have HE:Hid (Env B q most flags w κ [(w.heap.size+2,Obj.cells #[.int .i64 ty,.int .i64 wd,.int .u64 u] 65 (0,0)),(w.heap.size+1,Obj.cells #[.int .i64 t] 3 (0,0)),(w.heap.size,Obj.cells #[jF q.p] 26 (0,0))] x (((w.alloc (.cells #[jF q.p] 26)).alloc (.cells #[.int .i64 t] 3)).alloc (.cells #[.int .i64 ty,.int .i64 wd,.int .u64 u] 65))):=by
  have hh:=(((Env.start h).add (.cells #[jF q.p] 26)).add (.cells #[.int .i64 t] 3)).add (.cells #[.int .i64 ty,.int .i64 wd,.int .u64 u] 65)
  simp only[World.size_alloc,Nat.add_assoc,Nat.reduceAdd] at hh
  exact hh
 clear h hv hw
 show Calls prog 177 #[jF q.p,.int .i64 t,.agg #[.int .i64 ty,.int .i64 wd,.int .u64 u]] w _
 go_enter func177,ntmps177
 go_wp2_with fail
 refine (HE.out.call' fun κ1 hb he=>zG hb _ _ (x.apart most t (ty,wd,u)) (fun hx=>by unfold BS.apart;rw[if_neg hx]) (fun _=>enters_of func192 zk rfl _ _) (fun hx=>mU _ _ _ t ty wd u HIW.out HV.out HT0.out.1 HT0.out.2 hx he)).mono ?_
 rintro r w5 ⟨rfl,he⟩
 have HT:=zh he
 clear he
 go_wp2
 go_end0
 exact⟨rfl,HT.out.turn⟩
theorem cC (n:Int):isW (ZX n)=true:=by
 unfold ZX
 repeat' split
 all_goals rfl
theorem Z1 (n:Nat):isW (Ft.widthOf n)=true:=by
 unfold Ft.widthOf
 repeat' split
 all_goals rfl
theorem iW {B:Nat} {q:kN} {most flags:Int} {κ:Nat→Nat} {x:BS} {w:World} (n:Int) (h0 : -9223372036854775808≤n) (h1:n≤9223372036854775807) (h:Bd B q most flags κ x w):Calls prog 133 #[jF q.p,.int .i64 n] w fun r w'=>r=.returned (.tuple #[])∧j1 B q most flags κ (x.apart most 6 (y4 n)) w w':=by
 have HE:=zh h
 clear h
 go_enter func133,ntmps133
 go_wp2_with fail
 refine (b9 n _ h0 h1).mono ?_
 rintro r w1 ⟨rfl,hg⟩
 have HG:=zh hg
 clear hg
 go_wp2_with fail
 refine (eL 6 (y4 n) (cC n) (aQ n h0 h1) (by decide) (by decide) (HE.out.grew HG.out)).mono ?_
 rintro r w2 ⟨rfl,ht⟩
 have HT:=zh ht
 clear ht
 go_wp2
 go_end0
 exact⟨rfl,HT.out.after HG.out⟩
theorem f8 {B:Nat} {q:kN} {most flags:Int} {κ:Nat→Nat} {x:BS} {w:World} (u:Int) (h0:0≤u) (h1:u≤18446744073709551615) (h:Bd B q most flags κ x w):Calls prog 134 #[jF q.p,.int .u64 u] w fun r w'=>r=.returned (.tuple #[])∧j1 B q most flags κ (x.apart most 7 (yR u)) w w':=by
 have HE:=zh h
 clear h
 go_enter func134,ntmps134
 go_wp2_with fail
 refine (cA u _ h0 h1).mono ?_
 rintro r w1 ⟨rfl,hg⟩
 have HG:=zh hg
 clear hg
 go_wp2_with fail
 refine (eL 7 (yR u) (Z1 _) (aR u h0 h1) (by decide) (by decide) (HE.out.grew HG.out)).mono ?_
 rintro r w2 ⟨rfl,ht⟩
 have HT:=zh ht
 clear ht
 go_wp2
 go_end0
 exact⟨rfl,HT.out.after HG.out⟩
end Go.Proofs.YtjnpcddbgfmpcaaGreatDoor
namespace Go.Proofs.YtjnpcddbgfmpcaaGreatDoor
open Go.Proofs.Tryz
open Go Go.ChangeShapes Go.WideShapes Go.ChangeAt Go.RowKit Go.Joins Go.Deep
open Go.Proofs.YtjnpcddbgfmpcaaGreatDoor.Ft (V3 vV okV ValsAt inlineB legalB packF codeF typedF allF oneF fitsF belowW allAt headF fitsL fitsV)
theorem padN_le {X:Int} (b:List UInt8) (hX:isW X=true):(j5 b X:Int)≤7:=by
 unfold j5
 rcases kJ hX with rfl|rfl|rfl|rfl<;>omega
end Go.Proofs.YtjnpcddbgfmpcaaGreatDoor
namespace Go.Proofs.YtjnpcddbgfmpcaaGreatDoor
open Go.Proofs.Tryz
open Go Go.ChangeShapes Go.WideShapes Go.ChangeAt Go.RowKit Go.Joins Go.Deep
open Go.Proofs.YtjnpcddbgfmpcaaGreatDoor.Ft (V3 vV okV ValsAt inlineB legalB packF codeF typedF allF oneF fitsF belowW allAt headF fitsL fitsV unpackF)
structure DocEnd (d:List UInt8) (p w:Int) (v:V3):Prop where
 isw:isW w=true
 len:(d.length:Int)=p+w+2
 p0:0≤p
 wid:d[d.length - 1]? = some (UInt8.ofNat w.toNat)
 tag:d[d.length - 2]? = some (ZD w v)
 num:kC d p w=(vT p w v,0)
theorem doc_end {b:List UInt8} {v:V3} (hb:b.length≤1048576) (hn:ZG b.length v):DocEnd (VN b v) ((b.length:Int)+j5 b (oneF v.1 v.2.1 v.2.2 b.length 0)) (oneF v.1 v.2.1 v.2.2 b.length 0) v:=by
 obtain⟨hw,hf⟩:=ZY hb hn
 have hl:=Y8 hw
 have hd:VN b v=b++[j6 (j5 b (oneF v.1 v.2.1 v.2.2 b.length 0)),kH (oneF v.1 v.2.1 v.2.2 b.length 0).toNat (vT ((b.length:Int)+j5 b (oneF v.1 v.2.1 v.2.2 b.length 0)) (oneF v.1 v.2.1 v.2.2 b.length 0) v).toNat,[ZD (oneF v.1 v.2.1 v.2.2 b.length 0) v,UInt8.ofNat (oneF v.1 v.2.1 v.2.2 b.length 0).toNat]].flatten:=rfl
 have hr:=eD hw hn hf
 generalize VN b v=d at *
 generalize oneF v.1 v.2.1 v.2.2 b.length 0=w at *
 have hp:=kI hw
 have hd2:d=(b++j6 (j5 b w))++kH w.toNat (vT ((b.length:Int)+j5 b w) w v).toNat++[ZD w v,UInt8.ofNat w.toNat]:=by rw[hd];simp
 have j8:((b++j6 (j5 b w))++kH w.toNat (vT ((b.length:Int)+j5 b w) w v).toNat).length=d.length - 2:=by
  have h2:=congrArg List.length hd2
  simp only[List.length_append,List.length_cons,List.length_nil] at h2⊢
  omega
 refine⟨hw,by rw[hl],by omega,?_,?_,?_⟩
 ·obtain⟨n,hn1⟩:∃n,d.length - 1=n:=⟨_,rfl⟩
  rw[hn1,hd2,List.getElem?_append_right (by omega),j8,show n - (d.length - 2)=1 by omega]
  rfl
 ·obtain⟨n,hn1⟩:∃n,d.length - 2=n:=⟨_,rfl⟩
  rw[hn1,hd2,List.getElem?_append_right (by omega),j8,show n - (d.length - 2)=0 by omega]
  rfl
 ·exact JU hw hd2 (by rw[List.length_append,jX];omega) hr.1 hr.2
theorem iX {w:Int} {v:V3} (hw:isW w=true) (hl:jY v=0):unpackF (ZD w v).toNat=(v.1,if inlineB v.1 then w else v.2.1,0):=Y4 (x:=w) (v:=v) hw hl
end Go.Proofs.YtjnpcddbgfmpcaaGreatDoor
namespace Go.Proofs.YtjnpcddbgfmpcaaGreatDoor
open Go.Proofs.Tryz
open Go Go.ChangeShapes Go.WideShapes Go.ChangeAt Go.RowKit Go.Joins Go.Deep
open Go.Proofs.YtjnpcddbgfmpcaaGreatDoor.Ft (V3 vV okV ValsAt inlineB legalB packF codeF typedF allF)
section
variable {B:Nat} {q:kN} {most flags:Int} {κ0:Nat→Nat} {x:BS} {w w0:World} {Kp:List (Nat × Obj)}
theorem Env.keysGet (k:ByteArray) (h:Env B q most flags w0 κ0 Kp x w):Calls prog 71 #[jF q.k,.string k] w fun r w'=>r=.returned (.tuple #[.int .i64 (yB x.keys k).1,.bool (yB x.keys k).2])∧jA w w':=by
 obtain⟨κ,hb,_⟩:=h
 exact fZ k hb.keys
theorem Env.textsGet (k:ByteArray) (h:Env B q most flags w0 κ0 Kp x w):Calls prog 71 #[jF q.t,.string k] w fun r w'=>r=.returned (.tuple #[.int .i64 (yB x.texts k).1,.bool (yB x.texts k).2])∧jA w w':=by
 obtain⟨κ,hb,_⟩:=h
 exact fZ k hb.texts
theorem Env.listsGet (k:ByteArray) (h:Env B q most flags w0 κ0 Kp x w):Calls prog 71 #[jF q.l,.string k] w fun r w'=>r=.returned (.tuple #[.int .i64 (yB x.lists k).1,.bool (yB x.lists k).2])∧jA w w':=by
 obtain⟨κ,hb,_⟩:=h
 exact fZ k hb.lists
theorem Env.onE (flag:Int) (h:Env B q most flags w0 κ0 Kp x w):Calls prog 72 #[.pointer (some ⟨q.p,3,none⟩),.int .i64 flag] w fun r w'=>r=.returned (.bool (onF flags flag))∧w'=w:=by
 obtain⟨κ,hb,_⟩:=h
 exact on_any flag hb
theorem Env.keysPut (k:ByteArray) (a:Int) (hl:x.keys.length≤1048576) (h:Env B q most flags w0 κ0 Kp x w):Calls prog 73 #[jF q.k,.string k,.int .i64 a] w fun r w'=>r=.returned (.int .i64 (qY k a x.keys))∧Env B q most flags w0 κ0 Kp {x with keys:=zL k a x.keys} w':=
 h.call fun κ hb hz=>(b7 k a hb.keys hb.ok.keys).mono fun r w' hr=>⟨hr.1,hb.keys_step (Nat.le_trans (qO k a x.keys) (by omega)) (fU hb.ok.okK) hr.2⟩
theorem Env.textsPut (k:ByteArray) (a:Int) (hl:x.texts.length≤1048576) (h:Env B q most flags w0 κ0 Kp x w):Calls prog 73 #[jF q.t,.string k,.int .i64 a] w fun r w'=>r=.returned (.int .i64 (qY k a x.texts))∧Env B q most flags w0 κ0 Kp {x with texts:=zL k a x.texts} w':=
 h.call fun κ hb hz=>(b7 k a hb.texts hb.ok.texts).mono fun r w' hr=>⟨hr.1,hb.texts_step (Nat.le_trans (qO k a x.texts) (by omega)) (fU hb.ok.okT) hr.2⟩
theorem Env.listsPut (k:ByteArray) (a:Int) (hl:x.lists.length≤1048576) (h:Env B q most flags w0 κ0 Kp x w):Calls prog 73 #[jF q.l,.string k,.int .i64 a] w fun r w'=>r=.returned (.int .i64 (qY k a x.lists))∧Env B q most flags w0 κ0 Kp {x with lists:=zL k a x.lists} w':=
 h.call fun κ hb hz=>(b7 k a hb.lists hb.ok.lists).mono fun r w' hr=>⟨hr.1,hb.lists_step (Nat.le_trans (qO k a x.lists) (by omega)) hr.2⟩
theorem Env.text2 (a b:ByteArray) (hss:zH [a,b]≤1073741824) (h:Env B q most flags w0 κ0 Kp x w):Calls prog 52 #[jF q.b,.slice (some ⟨w.heap.size,0,none⟩) 2 2] (w.alloc (.cells #[.string a,.string b] 9)) fun r w'=>r=.returned (.tuple #[])∧Env B q most flags w0 κ0 Kp {x with s:=kA most (jP [a,b]) x.s} w':=
 h.callw fun κ hb hz=>by
  obtain⟨h0,o,h1,h2⟩:=hb.buf
  refine (rW x.s a b _ rfl h1 (Nat.zero_le _) hb.ok.len hb.ok.m1 hss).mono fun r w' hr=>⟨hr.1,?_⟩
  obtain⟨S',k1,k2,k3⟩:=VP.turn (S:=fun k=>κ k=2) h0 h1 h2 hr.2
  exact hb.buf_step (Z9 hb.ok.len) k1 k2 k3
theorem Env.name (k:ByteArray) (a:Int) {w':World} (h:Env B q most flags w0 κ0 Kp x w) (hb':cT w' q.m (qM x.names++[(a,.string k)])) (ho:w'.os=w.os) (ht:w'.tape=w.tape) (hp:w'.output=w.output) (hs:w'.heap.size=w.heap.size) (hk:∀j,j≠q.m→w'.heap[j]? = w.heap[j]?) :
 Env B q most flags w0 κ0 Kp {x with names:=x.names++[(a,k)]} w':=
 h.after fun κ hb hz=>hb.names_step (by simpa [qM] using hb') ⟨ho,ht,hp,Nat.le_of_eq hs.symm,fun j _ hne=>hk j hne⟩
theorem Env.namesAt (h:Env B q most flags w0 κ0 Kp x w):cT w q.m (qM x.names):=by
 obtain⟨κ,hb,_⟩:=h
 exact hb.names.2
end
theorem cD {n:Int}:∀{l:List (Int × ByteArray)} (i:Nat),(∀z∈l,z.1 < n)→ZA n (qM l) i=none
 | [],_,_=>rfl
 | z::r,i,h=>by
  have h1:=h z List.mem_cons_self
  show (if n=z.1 then _ else ZA n (qM r) (i+1))=none
  rw[if_neg (by omega)]
  exact cD (i+1) fun z hz=>h z (List.mem_cons_of_mem _ hz)
theorem iY {B:Nat} {q:kN} {most flags:Int} {κ:Nat→Nat} {x:BS} {w:World} (k:ByteArray) (hk:k.size≤1048576) (hg:x.Good) (h:Bd B q most flags κ x w):Calls prog 29 #[jF q.p,.string k] w fun r w'=>r=.returned (vV (x.put most (onF flags 1) k).1)∧j1 B q most flags κ (x.put most (onF flags 1) k).2 w w':=by
 have HG:=zh hg
 have HE:Hid (Env B q most flags w κ [(w.heap.size,Obj.cells #[.int .i64 0,.int .i64 0,.int .u64 0] 65 (0,0))] x (w.alloc (.cells #[.int .i64 0,.int .i64 0,.int .u64 0] 65))):=(Env.start h).add _
 have HSS:Hid (zH [k,⟨#[0]⟩]≤1073741824):=by have e:(⟨#[0]⟩:ByteArray).size=1:=rfl;show _≤_;simp[zH,e];omega
 have HM:Hid ((w.heap.size,Obj.cells #[.int .i64 0,.int .i64 0,.int .u64 0] 65 (0,0))∈([(w.heap.size,Obj.cells #[.int .i64 0,.int .i64 0,.int .u64 0] 65 (0,0))]:List (Nat × Obj))):=List.mem_cons_self
 clear h hg hk
 go_enter func29,ntmps29
 go_wp2_with fail
 generalize (w.alloc (.cells #[.int .i64 0,.int .i64 0,.int .u64 0] 65))=w1 at *
 refine jM [5] (yD B q most flags w κ [(w.heap.size,Obj.cells #[.int .i64 0,.int .i64 0,.int .u64 0] 65 (0,0))] [x] (x.fail (yI k))) (fun _ w w'=>jA w w') ((fun p (_:Nat→Value)=>(fun _ _ _=>True) p)) [[],[0],[0,1],[],[3],[0,1,2,3,4]] [[(10,3),(11,4)],[(7,0),(10,3),(11,4)],[(7,0),(8,1),(10,3),(11,4)],[(7,0),(8,1),(9,2)],[(7,0),(8,1),(9,2),(10,3)],[(7,0),(8,1),(9,2),(10,3),(11,4)]] [(7,0),(8,1),(9,2),(10,3),(11,4),(12,5)]
  [IsP (jF q.p),IsP (jF q.p),IsP (jF q.p),IsP (.string k),IsP (.int .i64 (yI k)),IsP (.tuple #[])]
  zk (yD.grew) (HE.out.grew (jA.refl _).drew) zk zk ⟨jC,jC,jC,jC,jC,jC,trivial⟩ rfl ?_ ?_
 ·intro y w2 hW hF
  simp only[zB,IsP,Nat.reduceAdd,List.length_cons,List.length_nil] at hF hW
  have h0:=hF.1
  have h1:=hF.2.1
  have h2:=hF.2.2.1
  have h3:=hF.2.2.2.1
  have h4:=hF.2.2.2.2.1
  have h5:=hF.2.2.2.2.2.1
  clear hF
  simp only[jB,Act.put,zq1,zq2,zq3,zq4,zq5]
  simp only[h0,h1,h2,h3,h4,h5]
  clear h0 h1 h2 h3 h4 h5
  have HE1:Hid (Env B q most flags w κ [(w.heap.size,Obj.cells #[.int .i64 0,.int .i64 0,.int .u64 0] 65 (0,0))] (x.fail (yI k)) w2):=hW
  have c2:=HE1.out.at2
  by_cases hf:(x.fail (yI k)).e=0
  ·have hx0:x.e=0∧yI k=0:=by
    have hh:kL x.e (yI k)=0:=hf
    unfold kL at hh
    split at hh
    ·exact⟨by assumption,hh⟩
    ·exact absurd hh (by assumption)
   have hxx:x.fail (yI k)=x:=by unfold BS.fail kL;rw[if_pos hx0.1,hx0.2,← hx0.1]
   have HE2:Hid (Env B q most flags w κ [(w.heap.size,Obj.cells #[.int .i64 0,.int .i64 0,.int .u64 0] 65 (0,0))] x w2):=by have h:=HE1.out;rw[hxx] at h;exact h
   have HX0:=zh hx0
   rw[hf] at c2
   have HXX:=zh hxx
   have HKL:Hid (x.keys.length≤1048576):=Nat.le_trans (HG.out.ks hx0.1) HE2.out.len
   have HLN:Hid (x.s.1.length≤1048576):=HE2.out.len
   have HNEW:Hid (ZA (x.s.1.length:Int) (qM x.names) 0=none):=cD 0 (HG.out.nm hx0.1)
   have HPU:Hid (∀b,(yB x.keys k).2=b→x.put most (onF flags 1) k=if b && (onF flags 1) then ((4,1,(yB x.keys k).1),x) else ((4,1,(x.s.1.length:Int)),({x with s:=kA most (jP [k,⟨#[0]⟩]) x.s,keys:=zL k (x.s.1.length:Int) x.keys,names:=x.names++[((x.s.1.length:Int),k)]}:BS).fail (kA most (jP [k,⟨#[0]⟩]) x.s).2)):=by
    show ∀b,_→_=_
    intro b hb
    unfold BS.put
    rw[hxx]
    simp only[hx0.1,ne_eq,not_true_eq_false,if_false,hb]
    split
    ·rfl
    ·simp only[BS.fail,kL,hx0.1,if_true]
   clear hf hx0 hxx HE1
   have c4:=HE2.out.at4
   go_wp2_with fail
   refine (HE2.out.keysGet k).mono ?_
   rintro r w3 ⟨rfl,hg3⟩
   have HE3:=zh (HE2.out.grew hg3)
   clear hg3 c4 c2
   have HGO:=zh (aP (k:=k) HE3.out.ok.okK)
   have HPB:=zh (HPU.out _ rfl)
   generalize yB x.keys k=g at *
   obtain⟨ga,gb⟩:=g
   cases gb with
   | false=>
    have HP:Hid (x.put most (onF flags 1) k=((4,1,(x.s.1.length:Int)),({x with s:=kA most (jP [k,⟨#[0]⟩]) x.s,keys:=zL k (x.s.1.length:Int) x.keys,names:=x.names++[((x.s.1.length:Int),k)]}:BS).fail (kA most (jP [k,⟨#[0]⟩]) x.s).2)):=HPB.out
    have c0:=HE3.out.at0
    go_wp2_with fail
    refine HE3.out.buflen.mono ?_
    rintro r w9 ⟨rfl,hw9⟩
    obtain rfl:w3=w9:=hw9.symm
    go_wp2_with fail
    refine (HE3.out.text2 k ⟨#[0]⟩ HSS.out).mono ?_
    rintro r w4 ⟨rfl,he⟩
    have HE4:=zh he
    clear he c0
    have c4:=HE4.out.at4
    go_wp2_with fail
    refine (HE4.out.keysPut k (x.s.1.length:Int) (show ({x with s:=kA most (jP [k,⟨#[0]⟩]) x.s}:BS).keys.length≤1048576 from HKL.out)).mono ?_
    rintro r w5 ⟨rfl,he⟩
    have HE5:=zh he
    clear he c4
    have c7:=HE5.out.at7
    have hwa:=K7 _ HLN.out
    go_wp2_with (refine VU _ underlying56 underlying38 rfl _ _ _ rfl q.m (qM x.names) rfl HE5.out.namesAt (x.s.1.length:Int) rfl _ rfl HNEW.out ?_;intro w6 hb' ho ht hp hs hk;have HE6:=zh (HE5.out.name k (x.s.1.length:Int) hb' ho ht hp hs hk);clear hb' ho ht hp hs hk c7)
    refine jM [9] (yD B q most flags w κ [(w.heap.size,Obj.cells #[.int .i64 0,.int .i64 0,.int .u64 0] 65 (0,0))] [{x with s:=kA most (jP [k,⟨#[0]⟩]) x.s,keys:=zL k (x.s.1.length:Int) x.keys,names:=x.names++[((x.s.1.length:Int),k)]}] (({x with s:=kA most (jP [k,⟨#[0]⟩]) x.s,keys:=zL k (x.s.1.length:Int) x.keys,names:=x.names++[((x.s.1.length:Int),k)]}:BS).fail (kA most (jP [k,⟨#[0]⟩]) x.s).2)) (fun _ w w'=>jA w w') ((fun p (_:Nat→Value)=>(fun _ _ _=>True) p)) [[],[0],[0,1],[],[3],[3,4],[3,4,5],[3,4,5,6],[3,4,5,6,7],[0,1,2,3,4,5,6,7,8]] [[(72,3),(73,4),(74,5),(75,6),(76,7),(77,8)],[(69,0),(72,3),(73,4),(74,5),(75,6),(76,7),(77,8)],[(69,0),(70,1),(72,3),(73,4),(74,5),(75,6),(76,7),(77,8)],[(69,0),(70,1),(71,2)],[(69,0),(70,1),(71,2),(72,3)],[(69,0),(70,1),(71,2),(72,3),(73,4)],[(69,0),(70,1),(71,2),(72,3),(73,4),(74,5)],[(69,0),(70,1),(71,2),(72,3),(73,4),(74,5),(75,6)],[(69,0),(70,1),(71,2),(72,3),(73,4),(74,5),(75,6),(76,7)],[(69,0),(70,1),(71,2),(72,3),(73,4),(74,5),(75,6),(76,7),(77,8)]] [(69,0),(70,1),(71,2),(72,3),(73,4),(74,5),(75,6),(76,7),(77,8),(78,9)]
     [IsP (jF q.p),IsP (jF q.p),IsP (jF q.p),IsP (jF q.p),IsP (jF q.p),IsP (jF q.p),IsP (jF q.p),IsP (jF q.b),IsP (.int .i64 (kA most (jP [k,⟨#[0]⟩]) x.s).2),IsP (.tuple #[])]
     zk (yD.grew) (HE6.out.grew (jA.refl _).drew) zk zk ⟨jC,jC,jC,jC,jC,jC,jC,jC,jC,jC,trivial⟩ rfl ?_ ?_
    ·intro y w2 hW hF
     simp only[zB,IsP,Nat.reduceAdd,List.length_cons,List.length_nil] at hF hW
     have h0:=hF.1
     have h1:=hF.2.1
     have h2:=hF.2.2.1
     have h3:=hF.2.2.2.1
     have h4:=hF.2.2.2.2.1
     have h5:=hF.2.2.2.2.2.1
     have h6:=hF.2.2.2.2.2.2.1
     have h7:=hF.2.2.2.2.2.2.2.1
     have h8:=hF.2.2.2.2.2.2.2.2.1
     have h9:=hF.2.2.2.2.2.2.2.2.2.1
     clear hF
     simp only[jB,Act.put,zq1,zq2,zq3,zq4,zq5]
     simp only[h0,h1,h2,h3,h4,h5,h6,h7,h8,h9]
     clear h0 h1 h2 h3 h4 h5 h6 h7 h8 h9
     have HE8:Hid (Env B q most flags w κ [(w.heap.size,Obj.cells #[.int .i64 0,.int .i64 0,.int .u64 0] 65 (0,0))] (({x with s:=kA most (jP [k,⟨#[0]⟩]) x.s,keys:=zL k (x.s.1.length:Int) x.keys,names:=x.names++[((x.s.1.length:Int),k)]}:BS).fail (kA most (jP [k,⟨#[0]⟩]) x.s).2) w2):=hW
     have jJ:=HE8.out.kp HM.out
     have c0:=jI jJ 0 _ rfl
     have c1:=jI jJ 1 _ rfl
     have c2:=jI jJ 2 _ rfl
     have f0:=jE jJ 0
     have f1:=jE jJ 1
     have f2:=jE jJ 2
     clear jJ
     go_wp2_with fail
     refine bodyPost_ret (v:=vV (4,1,(x.s.1.length:Int))) (by simp[results,results29,go_sem,c0,c1,c2,vV]) rfl ?_
     exact⟨by rw[HP.out],by rw[HP.out];exact HE8.out.told HM.out (Nat.le_refl _) (Moved.setCell (p:=⟨w.heap.size,2,none⟩) (Moved.setCell (p:=⟨w.heap.size,1,none⟩) (Moved.setCell (p:=⟨w.heap.size,0,none⟩) (Moved.refl (fun k=>k=w.heap.size) _) (fun _=>rfl) _) (fun _=>rfl) _) (fun _=>rfl) _)⟩
    refine⟨zqd,zqd,zqd,zqd,zqd,zqd,zqd,?_⟩
    refine⟨?_,?_⟩
    ·refine jH 0 0 ?_
     intro y w2 p hlo hhi hW hD K hK
     obtain rfl:p=0:=by omega
     have dd:=Env.at0 hW
     exact zqr
    refine⟨?_,?_⟩
    ·refine jH 0 0 ?_
     intro y w2 p hlo hhi hW hD K hK
     simp only[jV,zq4,zq5,IsP] at hD
     generalize hAA:jB y _ _=AA at hK⊢
     simp only[jB,Act.put,zq1,zq2,zq3,zq4,zq5,IsP] at hAA
     subst hAA
     simp only[zq4,zq5,IsP] at hK
     simp only[hD] at hK⊢
     clear hD
     refine jL ?_
     go_simp
     obtain rfl:p=0:=by omega
     refine (Env.buferr hW).mono ?_
     rintro r w3 ⟨rfl,hw3⟩
     exact hK _ _ _ rfl (by rw[hw3];exact jA.refl _) rfl
    refine⟨?_,?_⟩
    ·refine jN 0 rfl ?_
     intro y w2 hW hD K hK
     simp only[jV,zq4,zq5,IsP] at hD
     have h0:=hD.1
     have h1:=hD.2.1
     have h2:=hD.2.2.1
     have h3:=hD.2.2.2.1
     have h4:=hD.2.2.2.2.1
     have h5:=hD.2.2.2.2.2.1
     have h6:=hD.2.2.2.2.2.2.1
     have h7:=hD.2.2.2.2.2.2.2.1
     have h8:=hD.2.2.2.2.2.2.2.2.1
     clear hD
     generalize hAA:jB y _ _=AA at hK⊢
     simp only[jB,Act.put,zq1,zq2,zq3,zq4,zq5,IsP] at hAA
     subst hAA
     simp only[zq4,zq5,IsP] at hK
     simp only[h0,h1,h2,h3,h4,h5,h6,h7,h8] at hK⊢
     clear h0 h1 h2 h3 h4 h5 h6 h7 h8
     refine jL ?_
     go_simp
     refine (Env.call hW fun κ1 hb hz=>kV _ hb).mono ?_
     rintro r w3 ⟨rfl,he⟩
     exact hK _ _ _ rfl trivial he rfl
    trivial
   | true=>
    cases ho:onF flags 1 with
    | false=>
     have HP:Hid (x.put most (onF flags 1) k=((4,1,(x.s.1.length:Int)),({x with s:=kA most (jP [k,⟨#[0]⟩]) x.s,keys:=zL k (x.s.1.length:Int) x.keys,names:=x.names++[((x.s.1.length:Int),k)]}:BS).fail (kA most (jP [k,⟨#[0]⟩]) x.s).2)):=by have h:=HPB.out;rw[ho] at h;rw[ho];exact h
     have HO:=zh ho
     clear ho
     go_wp2_with fail
     refine (HE3.out.onE 1).mono ?_
     rw[HO.out]
     rintro r w9 ⟨rfl,hw9⟩
     obtain rfl:w3=w9:=hw9.symm
     have c0:=HE3.out.at0
     go_wp2_with fail
     refine HE3.out.buflen.mono ?_
     rintro r w9 ⟨rfl,hw9⟩
     obtain rfl:w3=w9:=hw9.symm
     go_wp2_with fail
     refine (HE3.out.text2 k ⟨#[0]⟩ HSS.out).mono ?_
     rintro r w4 ⟨rfl,he⟩
     have HE4:=zh he
     clear he c0
     have c4:=HE4.out.at4
     go_wp2_with fail
     refine (HE4.out.keysPut k (x.s.1.length:Int) (show ({x with s:=kA most (jP [k,⟨#[0]⟩]) x.s}:BS).keys.length≤1048576 from HKL.out)).mono ?_
     rintro r w5 ⟨rfl,he⟩
     have HE5:=zh he
     clear he c4
     have c7:=HE5.out.at7
     have hwa:=K7 _ HLN.out
     go_wp2_with (refine VU _ underlying56 underlying38 rfl _ _ _ rfl q.m (qM x.names) rfl HE5.out.namesAt (x.s.1.length:Int) rfl _ rfl HNEW.out ?_;intro w6 hb' ho ht hp hs hk;have HE6:=zh (HE5.out.name k (x.s.1.length:Int) hb' ho ht hp hs hk);clear hb' ho ht hp hs hk c7)
     refine jM [9] (yD B q most flags w κ [(w.heap.size,Obj.cells #[.int .i64 0,.int .i64 0,.int .u64 0] 65 (0,0))] [{x with s:=kA most (jP [k,⟨#[0]⟩]) x.s,keys:=zL k (x.s.1.length:Int) x.keys,names:=x.names++[((x.s.1.length:Int),k)]}] (({x with s:=kA most (jP [k,⟨#[0]⟩]) x.s,keys:=zL k (x.s.1.length:Int) x.keys,names:=x.names++[((x.s.1.length:Int),k)]}:BS).fail (kA most (jP [k,⟨#[0]⟩]) x.s).2)) (fun _ w w'=>jA w w') ((fun p (_:Nat→Value)=>(fun _ _ _=>True) p)) [[],[0],[0,1],[],[3],[3,4],[3,4,5],[3,4,5,6],[3,4,5,6,7],[0,1,2,3,4,5,6,7,8]] [[(72,3),(73,4),(74,5),(75,6),(76,7),(77,8)],[(69,0),(72,3),(73,4),(74,5),(75,6),(76,7),(77,8)],[(69,0),(70,1),(72,3),(73,4),(74,5),(75,6),(76,7),(77,8)],[(69,0),(70,1),(71,2)],[(69,0),(70,1),(71,2),(72,3)],[(69,0),(70,1),(71,2),(72,3),(73,4)],[(69,0),(70,1),(71,2),(72,3),(73,4),(74,5)],[(69,0),(70,1),(71,2),(72,3),(73,4),(74,5),(75,6)],[(69,0),(70,1),(71,2),(72,3),(73,4),(74,5),(75,6),(76,7)],[(69,0),(70,1),(71,2),(72,3),(73,4),(74,5),(75,6),(76,7),(77,8)]] [(69,0),(70,1),(71,2),(72,3),(73,4),(74,5),(75,6),(76,7),(77,8),(78,9)]
      [IsP (jF q.p),IsP (jF q.p),IsP (jF q.p),IsP (jF q.p),IsP (jF q.p),IsP (jF q.p),IsP (jF q.p),IsP (jF q.b),IsP (.int .i64 (kA most (jP [k,⟨#[0]⟩]) x.s).2),IsP (.tuple #[])]
      zk (yD.grew) (HE6.out.grew (jA.refl _).drew) zk zk ⟨jC,jC,jC,jC,jC,jC,jC,jC,jC,jC,trivial⟩ rfl ?_ ?_
     ·intro y w2 hW hF
      simp only[zB,IsP,Nat.reduceAdd,List.length_cons,List.length_nil] at hF hW
      have h0:=hF.1
      have h1:=hF.2.1
      have h2:=hF.2.2.1
      have h3:=hF.2.2.2.1
      have h4:=hF.2.2.2.2.1
      have h5:=hF.2.2.2.2.2.1
      have h6:=hF.2.2.2.2.2.2.1
      have h7:=hF.2.2.2.2.2.2.2.1
      have h8:=hF.2.2.2.2.2.2.2.2.1
      have h9:=hF.2.2.2.2.2.2.2.2.2.1
      clear hF
      simp only[jB,Act.put,zq1,zq2,zq3,zq4,zq5]
      simp only[h0,h1,h2,h3,h4,h5,h6,h7,h8,h9]
      clear h0 h1 h2 h3 h4 h5 h6 h7 h8 h9
      have HE8:Hid (Env B q most flags w κ [(w.heap.size,Obj.cells #[.int .i64 0,.int .i64 0,.int .u64 0] 65 (0,0))] (({x with s:=kA most (jP [k,⟨#[0]⟩]) x.s,keys:=zL k (x.s.1.length:Int) x.keys,names:=x.names++[((x.s.1.length:Int),k)]}:BS).fail (kA most (jP [k,⟨#[0]⟩]) x.s).2) w2):=hW
      have jJ:=HE8.out.kp HM.out
      have c0:=jI jJ 0 _ rfl
      have c1:=jI jJ 1 _ rfl
      have c2:=jI jJ 2 _ rfl
      have f0:=jE jJ 0
      have f1:=jE jJ 1
      have f2:=jE jJ 2
      clear jJ
      go_wp2_with fail
      refine bodyPost_ret (v:=vV (4,1,(x.s.1.length:Int))) (by simp[results,results29,go_sem,c0,c1,c2,vV]) rfl ?_
      exact⟨by rw[HP.out],by rw[HP.out];exact HE8.out.told HM.out (Nat.le_refl _) (Moved.setCell (p:=⟨w.heap.size,2,none⟩) (Moved.setCell (p:=⟨w.heap.size,1,none⟩) (Moved.setCell (p:=⟨w.heap.size,0,none⟩) (Moved.refl (fun k=>k=w.heap.size) _) (fun _=>rfl) _) (fun _=>rfl) _) (fun _=>rfl) _)⟩
     refine⟨zqd,zqd,zqd,zqd,zqd,zqd,zqd,?_⟩
     refine⟨?_,?_⟩
     ·refine jH 0 0 ?_
      intro y w2 p hlo hhi hW hD K hK
      obtain rfl:p=0:=by omega
      have dd:=Env.at0 hW
      exact zqr
     refine⟨?_,?_⟩
     ·refine jH 0 0 ?_
      intro y w2 p hlo hhi hW hD K hK
      simp only[jV,zq4,zq5,IsP] at hD
      generalize hAA:jB y _ _=AA at hK⊢
      simp only[jB,Act.put,zq1,zq2,zq3,zq4,zq5,IsP] at hAA
      subst hAA
      simp only[zq4,zq5,IsP] at hK
      simp only[hD] at hK⊢
      clear hD
      refine jL ?_
      go_simp
      obtain rfl:p=0:=by omega
      refine (Env.buferr hW).mono ?_
      rintro r w3 ⟨rfl,hw3⟩
      exact hK _ _ _ rfl (by rw[hw3];exact jA.refl _) rfl
     refine⟨?_,?_⟩
     ·refine jN 0 rfl ?_
      intro y w2 hW hD K hK
      simp only[jV,zq4,zq5,IsP] at hD
      have h0:=hD.1
      have h1:=hD.2.1
      have h2:=hD.2.2.1
      have h3:=hD.2.2.2.1
      have h4:=hD.2.2.2.2.1
      have h5:=hD.2.2.2.2.2.1
      have h6:=hD.2.2.2.2.2.2.1
      have h7:=hD.2.2.2.2.2.2.2.1
      have h8:=hD.2.2.2.2.2.2.2.2.1
      clear hD
      generalize hAA:jB y _ _=AA at hK⊢
      simp only[jB,Act.put,zq1,zq2,zq3,zq4,zq5,IsP] at hAA
      subst hAA
      simp only[zq4,zq5,IsP] at hK
      simp only[h0,h1,h2,h3,h4,h5,h6,h7,h8] at hK⊢
      clear h0 h1 h2 h3 h4 h5 h6 h7 h8
      refine jL ?_
      go_simp
      refine (Env.call hW fun κ1 hb hz=>kV _ hb).mono ?_
      rintro r w3 ⟨rfl,he⟩
      exact hK _ _ _ rfl trivial he rfl
     trivial
    | true=>
     have HP:Hid (x.put most (onF flags 1) k=((4,1,ga),x)):=by have h:=HPB.out;rw[ho] at h;rw[ho];exact h
     have HO:=zh ho
     clear ho
     go_wp2_with fail
     refine (HE3.out.onE 1).mono ?_
     rw[HO.out]
     rintro r w9 ⟨rfl,hw9⟩
     obtain rfl:w3=w9:=hw9.symm
     have HE8:=HE3
     have hwa:IntKind.u64.wrap ga=ga:=by have h:=HGO.out;simp[IntKind.wrap,IntKind.bits,IntKind.signed];omega
     have jJ:=HE8.out.kp HM.out
     have c0:=jI jJ 0 _ rfl
     have c1:=jI jJ 1 _ rfl
     have c2:=jI jJ 2 _ rfl
     have f0:=jE jJ 0
     have f1:=jE jJ 1
     have f2:=jE jJ 2
     clear jJ
     go_wp2_with fail
     refine bodyPost_ret (v:=vV (4,1,ga)) (by simp[results,results29,go_sem,c0,c1,c2,vV]) rfl ?_
     exact⟨by rw[HP.out],by rw[HP.out];exact HE8.out.told HM.out (Nat.le_refl _) (Moved.setCell (p:=⟨w.heap.size,2,none⟩) (Moved.setCell (p:=⟨w.heap.size,1,none⟩) (Moved.setCell (p:=⟨w.heap.size,0,none⟩) (Moved.refl (fun k=>k=w.heap.size) _) (fun _=>rfl) _) (fun _=>rfl) _) (fun _=>rfl) _)⟩
  ·have HP:Hid (x.put most (onF flags 1) k=((0,0,0),x.fail (yI k))):=by show _=_;unfold BS.put;simp only[ne_eq,hf,not_false_eq_true,if_true]
   have HE8:=zh HE1.out
   generalize hex:(x.fail (yI k)).e=ex at *
   have hne:¬ex=0:=hf
   clear hf hex HE1
   have jJ:=HE8.out.kp HM.out
   have c0:=jI jJ 0 _ rfl
   have c1:=jI jJ 1 _ rfl
   have c2:=jI jJ 2 _ rfl
   have f0:=jE jJ 0
   have f1:=jE jJ 1
   have f2:=jE jJ 2
   clear jJ
   go_wp2_with fail
   refine bodyPost_ret (v:=vV (0,0,0)) (by simp[results,results29,go_sem,c0,c1,c2,vV]) rfl ?_
   exact⟨by rw[HP.out],by rw[HP.out];exact HE8.out.told HM.out (Nat.le_refl _) (Moved.setCell (p:=⟨w.heap.size,2,none⟩) (Moved.setCell (p:=⟨w.heap.size,1,none⟩) (Moved.setCell (p:=⟨w.heap.size,0,none⟩) (Moved.refl (fun k=>k=w.heap.size) _) (fun _=>rfl) _) (fun _=>rfl) _) (fun _=>rfl) _)⟩
 refine⟨zqd,zqd,zqd,zqd,?_⟩
 refine⟨?_,?_⟩
 ·refine jH 0 0 ?_
  intro y w2 p hlo hhi hW hD K hK
  simp only[jV,zq4,zq5,IsP] at hD
  generalize hAA:jB y _ _=AA at hK⊢
  simp only[jB,Act.put,zq1,zq2,zq3,zq4,zq5,IsP] at hAA
  subst hAA
  simp only[zq4,zq5,IsP] at hK
  simp only[hD] at hK⊢
  clear hD
  refine jL ?_
  go_simp
  refine (mB k w2).mono ?_
  rintro r w3 ⟨rfl,hw3⟩
  exact hK _ _ _ rfl (by rw[← hw3];exact jA.refl _) rfl
 refine⟨?_,?_⟩
 ·refine jN 0 rfl ?_
  intro y w2 hW hD K hK
  simp only[jV,zq4,zq5,IsP] at hD
  have h0:=hD.1
  have h1:=hD.2.1
  have h2:=hD.2.2.1
  have h3:=hD.2.2.2.1
  have h4:=hD.2.2.2.2.1
  clear hD
  generalize hAA:jB y _ _=AA at hK⊢
  simp only[jB,Act.put,zq1,zq2,zq3,zq4,zq5,IsP] at hAA
  subst hAA
  simp only[zq4,zq5,IsP] at hK
  simp only[h0,h1,h2,h3,h4] at hK⊢
  clear h0 h1 h2 h3 h4
  refine jL ?_
  go_simp
  refine (Env.call hW fun κ1 hb hz=>kV _ hb).mono ?_
  rintro r w3 ⟨rfl,he⟩
  exact hK _ _ _ rfl trivial he rfl
 trivial
end Go.Proofs.YtjnpcddbgfmpcaaGreatDoor
