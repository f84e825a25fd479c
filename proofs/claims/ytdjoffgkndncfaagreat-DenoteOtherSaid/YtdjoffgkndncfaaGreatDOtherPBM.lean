/-Texts-/
import Derived.Test.YtdjoffgkndncfaaGreatDOtherPAY
import Derived.Test.YtdjoffgkndncfaaGreatDOtherPBL
import Derived.Test.YtdjoffgkndncfaaGreatDOtherPAV
import Derived.Test.YtdjoffgkndncfaaGreatDOtherPAR
set_option linter.unusedVariables false
set_option linter.unusedSimpArgs false
set_option maxHeartbeats 32000000
set_option maxRecDepth 100000
namespace Go.Proofs.YtdjoffgkndncfaaGreat
open Go.Proofs.Tryz
open Go Go.ChangeShapes Go.WideShapes Go.ChangeAt Go.RowKit Go.Joins Go.Deep
open Ft (V3 vV okV ValsAt inlineB legalB packF codeF typedF allF oneF)
structure BS where
 s:St
 e:Int
 stk:List V3
 keys:qI
 texts:qI
 lists:qI
 names:List (Int × ByteArray)
 vals:List V3
def mN (n:Nat):Int:=if n+1≤65536 then 0 else 5
def mO (l:List V3) (v:V3):List V3:=if l.length+1≤65536 then l++[v] else l
def onF (jD flag:Int):Bool:=bits .and .i64 jD flag != 0
namespace BS
def fail (e:Int) (x:BS):BS:={x with e:=zO x.e e}
def push (v:V3) (x:BS):BS:=
 if zO x.e x.s.2=0 then (if x.stk.length+1≤65536 then {x with e:=0,stk:=x.stk++[v]} else {x with e:=5}) else {x with e:=zO x.e x.s.2}
end BS
def y6 (b:Bool):V3:=(26,1,if b then 1 else 0)
def VO (n:Int):Int:=if -128≤n∧n≤127 then 1 else if -32768≤n∧n≤32767 then 2 else if -2147483648≤n∧n≤2147483647 then 4 else 8
def vE (n:Int):V3:=(1,VO n,n % 18446744073709551616)
def vF (u:Int):V3:=(2,Ft.widthOf u.toNat,u)
namespace BS
def inline (v:V3) (x:BS):BS:=if x.e=0 then x.push v else x
def apart (jB t:Int) (v:V3) (x:BS):BS:=
 if x.e=0 then
  let s1:=jL jB v.2.1 x.s
  ({x with s:=j9 jB v.2.1 (yD v.2.2 v.2.1) s1}:BS).push (t,v.2.1,(s1.1.length:Int))
 else x
def put (jB:Int) (share:Bool) (k:ByteArray) (x:BS):V3 × BS:=
 let x1:=x.fail (vD k)
 if x1.e≠0 then ((0,0,0),x1) else
 let g:=qN x.keys k
 if g.2 && share then ((4,1,g.1),x1) else
 let at_:Int:=x.s.1.length
 let s2:=kQ jB (jS [k,⟨#[0]⟩]) x.s
 ((4,1,at_),{x1 with s:=s2,keys:=qD k at_ x.keys,names:=x.names++[(at_,k)],e:=s2.2})
def key (jB:Int) (share:Bool) (k:ByteArray) (x:BS):BS:=if x.e=0 then (x.put jB share k).2.push (x.put jB share k).1 else x
def text (jB t:Int) (k behind:ByteArray) (x:BS):BS:=
 let w:=Ft.widthOf k.size
 let s1:=j9 jB w k.size (jL jB w x.s)
 let at_:Int:=s1.1.length
 ({x with s:=kQ jB (jS [k,behind]) s1,texts:=if t=5 then qD k at_ x.texts else x.texts}:BS).push (t,w,at_)
def str (jB:Int) (share:Bool) (k:ByteArray) (x:BS):BS:=
 if x.e=0 then
  let g:=qN x.texts k
  if g.2 && share then x.push (5,Ft.widthOf k.size,g.1) else x.text jB 5 k ⟨#[0]⟩
 else x
def blob (jB:Int) (k:ByteArray) (x:BS):BS:=if x.e=0 then x.text jB 25 k ByteArray.empty else x
end BS
def yH (jB elem many:Int) (l:List V3) (s:St):(V3 × Int) × St:=
 if elem = -1 then yS jB kG true true 10 0 l s else yS jB (kN elem) (decide (many=0)) false (typedF elem many).1 0 l s
namespace BS
def vector (jB elem many:Int) (l:List V3) (x:BS):BS:=
 if x.e=0 then
  let q:=yH jB elem many l x.s
  (({x with s:=q.2}:BS).fail q.1.2).push q.1.1
 else x
def putAll (jB:Int) (share:Bool):List ByteArray→BS→List V3 × BS
 | [],x=>([],x)
 | k::r,x=>((x.put jB share k).1::(putAll jB share r (x.put jB share k).2).1,(putAll jB share r (x.put jB share k).2).2)
def keyVec (jB:Int) (share:Bool) (l:List ByteArray) (x:BS):BS:=
 if x.e=0 then (x.putAll jB share l).2.vector jB 4 0 (x.putAll jB share l).1 else x
def fixed (jB elem:Int) (l:List V3) (x:BS):BS:=
 if x.e=0 then (if l.length < 2∨4 < l.length then x.fail 2 else x.vector jB elem l.length l) else x
def endVec (jB start:Int) (x:BS):BS:=
 if x.e=0 then
  (if 0≤start∧start≤x.stk.length then ({x with stk:=x.stk.take start.toNat}:BS).vector jB (-1) 0 (x.stk.drop start.toNat) else x.fail 2)
 else x
end BS
def yP (names:List (Int × ByteArray)) (n:Int):ByteArray:=match names.find? (λq=>q.1=n) with | some q=>q.2 | none=>ByteArray.empty
def zE (names:List (Int × ByteArray)):List V3→List (ByteArray × V3 × V3)
 | k::v::r=>(yP names k.2.2,k,v)::zE names r
 | _=>[]
def qY:List V3→Bool
 | k::_::r=>decide (k.1=4) && qY r
 | []=>true
 | _=>false
def zF (l:List ByteArray):ByteArray:=l.foldl (λa k=>a++(k++⟨#[0]⟩)) ByteArray.empty
namespace BS
def table (jB:Int) (share:Bool) (list:ByteArray) (keys vals:List V3) (x:BS):BS:=
 let g:=qN x.lists list
 let x1:BS:=if g.2 && share then x else
  let q:=yH jB 4 0 keys x.s
  ({x with s:=q.2,e:=zO x.e q.1.2,lists:=qD list x.vals.length x.lists,vals:=x.vals++[q.1.1]}:BS)
 let i:Int:=if g.2 && share then g.1 else x.vals.length
 if x1.e=0 then
  let q:=J4 jB (x1.vals.getD i.toNat (0,0,0)) vals x1.s
  (({x1 with s:=q.2}:BS).fail q.1.2).push q.1.1
 else x1
def endMap (jB:Int) (share:Bool) (start:Int) (x:BS):BS:=
 if x.e=0 then
  (if 0≤start∧start≤x.stk.length then
   let l:=x.stk.drop start.toNat
   if qY l then
    let es:=zE x.names l
    if (es.map (·.1)).Nodup then
     ({x with stk:=x.stk.take start.toNat}:BS).table jB share (zF ((vW es).map (·.1))) ((vW es).map (·.2.1)) ((vW es).map (·.2.2))
    else x.fail 71
   else x.fail 140
  else x.fail 2)
 else x
def finish (jB:Int) (x:BS):(List UInt8 × Int) × BS:=
 let x0:=if x.stk.length≠1 then x.fail 140 else x
 if x0.e≠0 then (([],x0.e),x0) else
 let v:=x.stk.getD 0 (0,0,0)
 let w:=oneF v.1 v.2.1 v.2.2 x.s.1.length 0
 let s1:=jL jB w x.s
 let own:=if inlineB v.1 then w else v.2.1
 let n:=if inlineB v.1 then yD v.2.2 w else IntKind.u64.wrap ((s1.1.length:Int) - v.2.2)
 let s2:=j9 jB w n s1
 let s3:=kQ jB [UInt8.ofNat (packF v.1 own).1.toNat,UInt8.ofNat w.toNat] s2
 ((eC s3,s3.2),({x0 with s:=s3}:BS).fail s3.2 |>.fail 140)
end BS
structure BS.Good (x:BS):Prop where
 s0:x.e=0→x.s.2=0
 nm:x.e=0→∀z∈x.names,z.1 < x.s.1.length
 ks:x.e=0→x.keys.length≤x.s.1.length
 ts:x.e=0→x.texts.length≤x.s.1.length
 ls:x.e=0→x.lists.length≤x.s.1.length
 vs:x.e=0→x.vals.length≤x.s.1.length
 ix:x.e=0→∀z∈x.lists,0≤z.2∧z.2 < x.vals.length
 nz:x.e=0→∀z∈x.names,z.2.size≤x.s.1.length
theorem L6 {α:Type} {l:List α} {i:Nat} {x z:α} (h:z∈Q2 l i x):z∈l∨z=x:=by
 unfold Q2 at h;rcases List.mem_append.1 h with h|h
 ·exact .inl (List.mem_of_mem_take h)
 rcases List.mem_cons.1 h with h|h
 ·exact .inr h
 exact .inl (List.mem_of_mem_drop h)
theorem aP {k:ByteArray} {a:Int} {l:qI} {z:ByteArray × Int} (h:z∈qD k a l):z∈l∨(z=(k,a)∧0≤a∧a≤9007199254740991):=by
 unfold qD at h;split at h
 ·exact .inl h
 rename_i hn;split at h
 ·exact .inl h
 rcases L6 h with h|h
 ·exact .inl h
 exact .inr ⟨h,by omega,by omega⟩
theorem tC {k:ByteArray} {a:Int} {l:qI} (h:∀z∈l,0≤z.2∧z.2≤9007199254740991):∀z∈qD k a l,0≤z.2∧z.2≤9007199254740991:=λz hz=>by
 rcases aP hz with h1|⟨rfl,h2,h3⟩
 ·exact h z h1
 exact⟨h2,h3⟩
theorem iW {k:ByteArray} {l:qI} (h:∀z∈l,0≤z.2∧z.2≤9007199254740991):0≤(qN l k).1∧(qN l k).1≤9007199254740991:=by
 unfold qN;split
 ·rename_i hh;have hlt:=iV hh;have hg:(QZ l).getD (vQ l k) 0=(l[vQ l k]).2:=by simp[QZ,List.getD_eq_getElem?_getD,hlt]
  dsimp only;rw[hg];exact h _ (List.getElem_mem hlt)
 simp
end Go.Proofs.YtdjoffgkndncfaaGreat
namespace Go.Proofs.YtdjoffgkndncfaaGreat
open Go.Proofs.Tryz
open Go Go.ChangeShapes Go.WideShapes Go.ChangeAt Go.RowKit Go.Joins Go.Deep
open Ft (V3 vV okV ValsAt inlineB legalB packF codeF typedF allF oneF)
namespace BS.Good
variable {v:V3}
theorem xE {x:BS} (h:x.e≠0):x.Good:=⟨λe=>absurd e h,λe=>absurd e h,λe=>absurd e h,λe=>absurd e h,λe=>absurd e h,λe=>absurd e h,λe=>absurd e h,λe=>absurd e h⟩
theorem fail {x:BS} {e:Int} (h:x.Good):(x.fail e).Good:=by
 by_cases hx:x.e=0
 ·have he:x.fail e={x with e:=e}:=by unfold BS.fail zO;rw[if_pos hx]
  rw[he];exact⟨λ_=>h.s0 hx,λ_=>h.nm hx,λ_=>h.ks hx,λ_=>h.ts hx,λ_=>h.ls hx,λ_=>h.vs hx,λ_=>h.ix hx,λ_=>h.nz hx⟩
 have he:x.fail e=x:=by unfold BS.fail zO;rw[if_neg hx]
 rw[he];exact h
theorem push {x:BS} (h:x.Good):(x.push v).Good:=by
 unfold BS.push;by_cases hf:zO x.e x.s.2=0
 ·rw[if_pos hf]
  have hx:x.e=0:=by
   unfold zO at hf;split at hf
   ·assumption
   exact hf
  split
  ·exact⟨λ_=>h.s0 hx,λ_=>h.nm hx,λ_=>h.ks hx,λ_=>h.ts hx,λ_=>h.ls hx,λ_=>h.vs hx,λ_=>h.ix hx,λ_=>h.nz hx⟩
  exact xE (by show (5:Int)≠0;decide)
 rw[if_neg hf];exact xE hf
theorem inline {x:BS} (h:x.Good):(x.inline v).Good:=by
 unfold BS.inline;split
 ·exact h.push
 exact h
end BS.Good
theorem tD {jB:Int} {y:List UInt8} {s:St}:s.1.length≤(kQ jB y s).1.length:=by
 show _≤(aA s.1 y jB s.2).length;unfold aA
 repeat' split
 all_goals simp
theorem Q4 {jB x:Int} {s:St}:s.1.length≤(jL jB x s).1.length:=by
 unfold jL;split
 ·exact tD
 exact Nat.le_refl _
theorem VP {jB x u:Int} {s:St}:s.1.length≤(j9 jB x u s).1.length:=by
 unfold j9
 repeat' split
 ·exact tD
 ·exact Nat.le_refl _
 exact Nat.le_refl _
namespace BS.Good
variable {v:V3}
theorem push_buf {x:BS} {s':St} (h:x.Good) (hx:x.e=0) (hl:x.s.1.length≤s'.1.length):(({x with s:=s'}:BS).push v).Good:=by
 unfold BS.push;dsimp only;by_cases hf:zO x.e s'.2=0
 ·rw[if_pos hf]
  have hs:s'.2=0:=by
   unfold zO at hf;rw[if_pos hx] at hf;exact hf
  split
  ·exact⟨λ_=>hs,λ_ z hz=>Int.lt_of_lt_of_le (h.nm hx z hz) (by show (_:Int)≤_;exact_mod_cast hl),λ_=>Nat.le_trans (h.ks hx) hl,λ_=>Nat.le_trans (h.ts hx) hl,λ_=>Nat.le_trans (h.ls hx) hl,λ_=>Nat.le_trans (h.vs hx) hl,λ_=>h.ix hx,λ_ z hz=>Nat.le_trans (h.nz hx z hz) hl⟩
  exact xE (by show (5:Int)≠0;decide)
 rw[if_neg hf];exact xE hf
theorem apart {x:BS} {jB t:Int} (h:x.Good):(x.apart jB t v).Good:=by
 unfold BS.apart;by_cases hx:x.e=0
 ·rw[if_pos hx];exact h.push_buf hx (Nat.le_trans Q4 VP)
 rw[if_neg hx];exact h
end BS.Good
theorem bS {jB:Int} {y:List UInt8} {s:St} (h:(kQ jB y s).2=0):s.2=0∧(kQ jB y s).1=s.1++y:=by
 have h1:(if s.2=0∧¬(y.length:Int)≤jB - s.1.length then (5:Int) else s.2)=0:=h;split at h1
 ·cases h1
 rename_i hn;refine⟨h1,?_⟩;show (if s.2=0∧(y.length:Int)≤jB - s.1.length then s.1++y else s.1)=_;rw[if_pos ⟨h1,Decidable.byContradiction λhk=>hn ⟨h1,hk⟩⟩]
theorem dA (k:ByteArray):1≤(jS [k,⟨#[0]⟩]).length:=by
 simp[jS]
namespace BS.Good
variable {jB:Int} {sh:Bool} {k:ByteArray}
theorem put {x:BS} (h:x.Good):(x.put jB sh k).2.Good:=by
 unfold BS.put;dsimp only;by_cases hf:(x.fail (vD k)).e≠0
 ·rw[if_pos hf];exact h.fail
 rw[if_neg hf];by_cases hg:((qN x.keys k).2 && sh)=true
 ·rw[if_pos hg];exact h.fail
 rw[if_neg hg];have hf0:zO x.e (vD k)=0:=Decidable.byContradiction hf
 have hx:x.e=0:=by
  unfold zO at hf0;split at hf0
  ·assumption
  exact hf0
 have hxx:x.fail (vD k)={x with e:=vD k}:=by unfold BS.fail zO;rw[if_pos hx]
 rw[hxx];have hp:=KW k (x.s.1.length:Int) x.keys;have hb:=dA k;refine⟨λe=>e,λe=>?_,λe=>?_,λe=>?_,λe=>?_,λe=>?_,λ_=>h.ix hx,λe=>?_⟩;rotate_left 5
 all_goals
  have hs:=(bS e).2;have hl:(kQ jB (jS [k,⟨#[0]⟩]) x.s).1.length=x.s.1.length+(jS [k,⟨#[0]⟩]).length:=(by rw[hs,List.length_append]);have h1:=h.nm hx;have h2:=h.ks hx;have h3:=h.ts hx;have h4:=h.ls hx;have h5:=h.vs hx
 ·intro z hz;show z.2.size≤(kQ jB (jS [k,⟨#[0]⟩]) x.s).1.length;rcases List.mem_append.1 hz with hz|hz
  ·have:=h.nz hx z hz;omega
  obtain rfl:=List.mem_singleton.1 hz
  have hk2:(jS [k,⟨#[0]⟩]).length=k.size+1:=by
   have h:(jS [k,⟨#[0]⟩]).length=k.data.size+1:=(by simp[jS]);exact h
  show k.size≤_;omega
 ·intro z hz;show z.1 < ((kQ jB (jS [k,⟨#[0]⟩]) x.s).1.length:Int);rcases List.mem_append.1 hz with hz|hz
  ·have:=h1 z hz;omega
  obtain rfl:=List.mem_singleton.1 hz;show (x.s.1.length:Int) < _;omega
 all_goals
  show _≤(kQ jB (jS [k,⟨#[0]⟩]) x.s).1.length;dsimp only;omega
theorem key {x:BS} (h:x.Good):(x.key jB sh k).Good:=by
 unfold BS.key;split
 ·exact h.put.push
 exact h
theorem tE {y:BS} {v:V3} (h:y.e=0→y.s.2=0→y.Good):(y.push v).Good:=by
 by_cases hf:zO y.e y.s.2=0
 ·have hx:y.e=0∧y.s.2=0:=by
   unfold zO at hf;split at hf
   ·exact⟨by assumption,hf⟩
   rename_i hn;exact absurd hf hn
  exact (h hx.1 hx.2).push
 unfold BS.push;rw[if_neg hf];exact xE hf
theorem text {x:BS} {t:Int} {z:ByteArray} (h:x.Good) (hx:x.e=0) (hz:t=5→z=⟨#[0]⟩):(x.text jB t k z).Good:=by
 unfold BS.text;dsimp only;refine tE λ_ e=>?_;have h0:=(bS e).2;have hl0:x.s.1.length≤(j9 jB (Ft.widthOf k.size) k.size (jL jB (Ft.widthOf k.size) x.s)).1.length:=Nat.le_trans Q4 VP;generalize j9 jB (Ft.widthOf k.size) k.size (jL jB (Ft.widthOf k.size) x.s)=s1 at *;have hl:(kQ jB (jS [k,z]) s1).1.length=s1.1.length+(jS [k,z]).length:=by rw[h0,List.length_append]
 have h1:=h.nm hx;have h2:=h.ks hx;have h3:=h.ts hx;have h4:=h.ls hx;have h5:=h.vs hx;refine⟨λ_=>e,λ_ z' hz'=>?_,λ_=>?_,λ_=>?_,λ_=>?_,λ_=>?_,λ_=>h.ix hx,λ_ z' hz'=>?_⟩
 ·show z'.1 < ((kQ jB (jS [k,z]) s1).1.length:Int);have:=h1 z' hz';omega
 ·show x.keys.length≤(kQ jB (jS [k,z]) s1).1.length;omega
 ·show (if t=5 then qD k (s1.1.length:Int) x.texts else x.texts).length≤(kQ jB (jS [k,z]) s1).1.length;by_cases ht:t=5
  ·rw[if_pos ht];have hp:=KW k (s1.1.length:Int) x.texts;have hb:=dA k;rw[hz ht] at hl⊢;omega
  rw[if_neg ht];omega
 ·show x.lists.length≤(kQ jB (jS [k,z]) s1).1.length;omega
 ·show x.vals.length≤(kQ jB (jS [k,z]) s1).1.length;omega
 show z'.2.size≤(kQ jB (jS [k,z]) s1).1.length;have:=h.nz hx z' hz';omega
theorem str {x:BS} (h:x.Good):(x.str jB sh k).Good:=by
 unfold BS.str;dsimp only;by_cases hx:x.e=0
 ·rw[if_pos hx];split
  ·exact h.push
  exact h.text hx λ_=>rfl
 rw[if_neg hx];exact h
theorem blob {x:BS} (h:x.Good):(x.blob jB k).Good:=by
 unfold BS.blob;by_cases hx:x.e=0
 ·rw[if_pos hx];exact h.text hx λe=>absurd e zd
 rw[if_neg hx];exact h
end BS.Good
theorem xF {jB x:Int} {v:V3} {s:St}:s.1.length≤(qP jB x s v).1.length:=by
 unfold qP;split
 ·exact VP
 exact VP
theorem bT {jB x:Int}:∀(l:List V3) (s:St),s.1.length≤(jY jB x l s).1.length
 | [],_=>Nat.le_refl _
 | v::r,s=>Nat.le_trans xF (bT r (qP jB x s v))
theorem eL {jB x:Int}:∀(l:List V3) (s:St),s.1.length≤(z6 jB x l s).1.length
 | [],_=>Nat.le_refl _
 | v::r,s=>Nat.le_trans (show s.1.length≤(sY jB x s v).1.length from tD) (eL r (sY jB x s v))
theorem DS {jB:Int} {T:V3→Int} {len jX:Bool} {kind e0:Int} {l:List V3} {s:St}:s.1.length≤(yS jB T len jX kind e0 l s).2.1.length:=by
 unfold yS;dsimp only;by_cases ha:yK T e0 l≠0
 ·rw[if_pos ha];exact Nat.le_refl _
 rw[if_neg ha];generalize allF l (0,0,0) s.1.length (if len=true then 1 else 0)=X;by_cases hb:X=0
 ·rw[if_pos hb];exact Nat.le_refl _
 rw[if_neg hb];have h1:s.1.length≤(jL jB X s).1.length:=Q4
 have h2:s.1.length≤(if len=true then j9 jB X l.length (jL jB X s) else jL jB X s).1.length:=by
  split
  ·exact Nat.le_trans h1 VP
  exact h1
 have h3:=Nat.le_trans h2 (bT (jB:=jB) (x:=X) l _)
 have h4:s.1.length≤(if jX=true then z6 jB X l (jY jB X l (if len=true then j9 jB X l.length (jL jB X s) else jL jB X s)) else jY jB X l (if len=true then j9 jB X l.length (jL jB X s) else jL jB X s)).1.length:=by
  split
  ·exact Nat.le_trans h3 (eL l _)
  exact h3
 generalize (if jX=true then z6 jB X l (jY jB X l (if len=true then j9 jB X l.length (jL jB X s) else jL jB X s)) else jY jB X l (if len=true then j9 jB X l.length (jL jB X s) else jL jB X s))=s4 at h4⊢;by_cases hc:s4.2≠0
 ·rw[if_pos hc];exact h4
 rw[if_neg hc];exact h4
theorem L7 {jB elem many:Int} {l:List V3} {s:St}:s.1.length≤(yH jB elem many l s).2.1.length:=by
 unfold yH;split
 ·exact DS
 exact DS
namespace BS.Good
variable {jB elem:Int} {l:List V3}
theorem vector {x:BS} {many:Int} (h:x.Good):(x.vector jB elem many l).Good:=by
 unfold BS.vector;dsimp only;by_cases hx:x.e=0
 ·rw[if_pos hx];refine tE λ_ e=>?_;have hs:(yH jB elem many l x.s).2.2=0:=e;have hl:=L7 (jB:=jB) (elem:=elem) (many:=many) (l:=l) (s:=x.s);refine fail ⟨λ_=>hs,λ_ z hz=>?_,λ_=>Nat.le_trans (h.ks hx) hl,λ_=>Nat.le_trans (h.ts hx) hl,λ_=>Nat.le_trans (h.ls hx) hl,λ_=>Nat.le_trans (h.vs hx) hl,λ_=>h.ix hx,λ_ z hz=>Nat.le_trans (h.nz hx z hz) hl⟩;have:=h.nm hx z hz;show z.1 < ((yH jB elem many l x.s).2.1.length:Int);omega
 rw[if_neg hx];exact h
theorem putAll {jB:Int} {sh:Bool}:∀(l:List ByteArray) {x:BS},x.Good→(x.putAll jB sh l).2.Good
 | [],_,h=>h
 | _::r,_,h=>putAll r h.put
theorem keyVec {x:BS} {sh:Bool} {l:List ByteArray} (h:x.Good):(x.keyVec jB sh l).Good:=by
 unfold BS.keyVec;split
 ·exact (putAll l h).vector
 exact h
theorem fixed {x:BS} (h:x.Good):(x.fixed jB elem l).Good:=by
 unfold BS.fixed;split
 ·split
  ·exact h.fail
  exact h.vector
 exact h
theorem stk {x:BS} (h:x.Good) (l:List V3):({x with stk:=l}:BS).Good:=⟨h.s0,h.nm,h.ks,h.ts,h.ls,h.vs,h.ix,h.nz⟩
theorem endVec {x:BS} {start:Int} (h:x.Good):(x.endVec jB start).Good:=by
 unfold BS.endVec;split
 ·split
  ·exact (h.stk _).vector
  exact h.fail
 exact h
end BS.Good
theorem L8 {jB:Int} {y:List UInt8} {s:St} (h:(kQ jB y s).2=0):s.2=0:=(bS h).1
theorem pV {x:Int} {s:St} (hx:x≠0) (h:(bZ x s).2=0):s.2=0∧False:=by
 have h1:zO s.2 x=0:=h;unfold zO at h1;split at h1
 ·exact absurd h1 hx
 rename_i hn;exact absurd h1 hn
theorem mP {jB x u:Int} {s:St} (h:(j9 jB x u s).2=0):s.2=0∧(j9 jB x u s).1.length=s.1.length+x.toNat∧isW x=true:=by
 unfold j9 at h⊢;by_cases hw:isW x=true
 ·rw[if_pos hw] at h⊢;by_cases hf:fB x u=true
  ·rw[if_pos hf] at h⊢;have:=bS h;exact⟨this.1,by rw[this.2,List.length_append,kF],hw⟩
  rw[if_neg hf] at h;exact (pV zd h).2.elim
 rw[if_neg hw] at h;exact (pV zd h).2.elim
theorem mQ {jB x:Int}:∀(l:List V3) {s:St},(jY jB x l s).2=0→s.2=0
 | [],_,h=>h
 | v::r,s,h=>by
  have h1:=mQ r (s:=qP jB x s v) h;unfold qP at h1;split at h1
  ·exact (mP h1).1
  exact (mP h1).1
theorem pW {jB x:Int}:∀(l:List V3) {s:St},(z6 jB x l s).2=0→s.2=0
 | [],_,h=>h
 | v::r,s,h=>L8 (pW r (s:=sY jB x s v) h)
theorem putF_gt {jB:Int} {T:V3→Int} {jX:Bool} {kind e0:Int} {l:List V3} {s:St} (h:(yS jB T true jX kind e0 l s).1.2=0):s.1.length < (yS jB T true jX kind e0 l s).2.1.length∧(yS jB T true jX kind e0 l s).2.2=0:=by
 unfold yS at h⊢;dsimp only at h⊢;by_cases ha:yK T e0 l≠0
 ·rw[if_pos ha] at h;exact absurd h ha
 rw[if_neg ha] at h⊢;simp only[if_true] at h⊢;generalize allF l (0,0,0) s.1.length 1=X at h⊢;by_cases hb:X=0
 ·rw[if_pos hb] at h;cases h
 rw[if_neg hb] at h⊢
 have hg:∀s4:St,(s4=if jX=true then z6 jB X l (jY jB X l (j9 jB X l.length (jL jB X s))) else jY jB X l (j9 jB X l.length (jL jB X s)))→s4.2=0→s.1.length < s4.1.length:=by
  intro s4 e h4
  have h3:(jY jB X l (j9 jB X l.length (jL jB X s))).2=0∧(jY jB X l (j9 jB X l.length (jL jB X s))).1.length≤s4.1.length:=by
   rw[e] at h4⊢;split at h4
   ·rename_i ht;rw[if_pos ht];exact⟨pW l h4,eL l _⟩
   rename_i ht;rw[if_neg ht];exact⟨h4,Nat.le_refl _⟩
  have h2:=mP (mQ l h3.1);have h1:=bT (jB:=jB) (x:=X) l (j9 jB X l.length (jL jB X s));have h0:s.1.length≤(jL jB X s).1.length:=Q4;have hw:=zW h2.2.2;have:=h2.2.1;omega
 have hg':=hg _ rfl;generalize (if jX=true then z6 jB X l (jY jB X l (j9 jB X l.length (jL jB X s))) else jY jB X l (j9 jB X l.length (jL jB X s)))=s4 at h hg'⊢;by_cases hc:s4.2≠0
 ·rw[if_pos hc] at h;exact absurd h hc
 rw[if_neg hc];exact⟨hg' (Decidable.byContradiction hc),Decidable.byContradiction hc⟩
theorem L9 {jB x:Int} {k:V3} {n:Nat} {s:St}:s.1.length≤(KI jB x k n s).1.length:=by
 unfold KI;have h1:s.1.length≤(jL jB x s).1.length:=Q4;have h2:(jL jB x s).1.length≤(qP jB x (jL jB x s) k).1.length:=xF;generalize qP jB x (jL jB x s) k=s2 at h2⊢;have h3:s2.1.length≤(j9 jB x k.2.1 s2).1.length:=VP;generalize j9 jB x k.2.1 s2=s3 at h3⊢;have h4:s3.1.length≤(j9 jB x n s3).1.length:=VP;omega
theorem putM_ge {jB:Int} {k:V3} {l:List V3} {s:St}:s.1.length≤(J4 jB k l s).2.1.length:=by
 unfold J4;dsimp only;by_cases ha:JX k l≠0
 ·rw[if_pos ha];exact Nat.le_refl _
 rw[if_neg ha];generalize allF l k s.1.length 3=X;by_cases hb:X=0
 ·rw[if_pos hb];exact Nat.le_refl _
 rw[if_neg hb];have h4:s.1.length≤(z6 jB X l (jY jB X l (KI jB X k l.length s))).1.length:=Nat.le_trans L9 (Nat.le_trans (bT l _) (eL l _));generalize z6 jB X l (jY jB X l (KI jB X k l.length s))=s6 at h4⊢;by_cases hc:s6.2≠0
 ·rw[if_pos hc];exact h4
 rw[if_neg hc];exact h4
namespace BS.Good
variable {jB:Int} {vals keys:List V3} {list:ByteArray} {sh:Bool}
theorem put_map {x:BS} {k:V3} (h:x.Good) (hx:x.e=0):((({x with s:=(J4 jB k vals x.s).2}:BS).fail (J4 jB k vals x.s).1.2).push (J4 jB k vals x.s).1.1).Good:=by
 have hl:=putM_ge (jB:=jB) (k:=k) (l:=vals) (s:=x.s);generalize J4 jB k vals x.s=q at hl⊢;refine tE λ_ e=>?_;have hs:q.2.2=0:=e;refine fail ⟨λ_=>hs,λ_ z hz=>?_,λ_=>Nat.le_trans (h.ks hx) hl,λ_=>Nat.le_trans (h.ts hx) hl,λ_=>Nat.le_trans (h.ls hx) hl,λ_=>Nat.le_trans (h.vs hx) hl,λ_=>h.ix hx,λ_ z hz=>Nat.le_trans (h.nz hx z hz) hl⟩;have:=h.nm hx z hz;show z.1 < (q.2.1.length:Int);omega
theorem newList {x:BS} (h:x.Good) (hx:x.e=0):({x with s:=(yH jB 4 0 keys x.s).2,e:=zO x.e (yH jB 4 0 keys x.s).1.2,lists:=qD list x.vals.length x.lists,vals:=x.vals++[(yH jB 4 0 keys x.s).1.1]}:BS).Good:=by
 have hgt:=λh=>(putF_gt (jB:=jB) (T:=kN 4) (jX:=false) (kind:=(typedF 4 0).1) (e0:=0) (l:=keys) (s:=x.s) h);have hq:yH jB 4 0 keys x.s=yS jB (kN 4) true false (typedF 4 0).1 0 keys x.s:=rfl;rw[← hq] at hgt;generalize yH jB 4 0 keys x.s=q at hgt⊢;have hf:zO x.e q.1.2=q.1.2:=by unfold zO;rw[if_pos hx]
 have hp:=KW list (x.vals.length:Int) x.lists;have h1:=h.nm hx;have h2:=h.ks hx;have h3:=h.ts hx;have h4:=h.ls hx;have h5:=h.vs hx;have h6:=h.ix hx;refine⟨λe=>(hgt (hf ▸ e)).2,λe z hz=>?_,λe=>?_,λe=>?_,λe=>?_,λe=>?_,λe z hz=>?_,λe z hz=>Nat.le_trans (h.nz hx z hz) (Nat.le_of_lt (hgt (hf ▸ e)).1)⟩
 ·have:=(hgt (hf ▸ e)).1;have:=h1 z hz;show z.1 < (q.2.1.length:Int);omega
 ·have:=(hgt (hf ▸ e)).1;show x.keys.length≤q.2.1.length;omega
 ·have:=(hgt (hf ▸ e)).1;show x.texts.length≤q.2.1.length;omega
 ·have:=(hgt (hf ▸ e)).1;show (qD list (x.vals.length:Int) x.lists).length≤q.2.1.length;omega
 ·have:=(hgt (hf ▸ e)).1;show (x.vals++[q.1.1]).length≤q.2.1.length;rw[List.length_append];simp;omega
 show 0≤z.2∧z.2 < ((x.vals++[q.1.1]).length:Int);rw[List.length_append];rcases aP hz with hz|⟨rfl,_,_⟩
 ·have:=h6 z hz;simp;omega
 simp;omega
theorem table {x:BS} (h:x.Good) (hx:x.e=0):(x.table jB sh list keys vals).Good:=by
 unfold BS.table;dsimp only;have hG:=h.newList (jB:=jB) (list:=list) (keys:=keys) hx;generalize yH jB 4 0 keys x.s=q at hG⊢
 cases hg:((qN x.lists list).2 && sh) with
 | true=>
  simp only[if_true];rw[if_pos hx];exact h.put_map hx
 | false=>
  simp only[Bool.false_eq_true,if_false];by_cases he:zO x.e q.1.2=0
  ·rw[if_pos he];exact hG.put_map he
  rw[if_neg he];exact hG
theorem endMap {x:BS} {start:Int} (h:x.Good):(x.endMap jB sh start).Good:=by
 unfold BS.endMap;dsimp only;by_cases hx:x.e=0
 ·rw[if_pos hx];split
  ·split
   ·split
    ·exact (h.stk _).table hx
    exact h.fail
   exact h.fail
  exact h.fail
 rw[if_neg hx];exact h
end BS.Good
end Go.Proofs.YtdjoffgkndncfaaGreat
namespace Go.Proofs.YtdjoffgkndncfaaGreat
open Go.Proofs.Tryz
open Go Go.ChangeShapes Go.WideShapes Go.ChangeAt Go.RowKit Go.Joins Go.Deep
open Ft (V3 vV okV ValsAt inlineB legalB packF codeF typedF allF)
def BS.new:BS:=⟨([],0),0,[],[],[],[],[],[]⟩
theorem xG {a b:Int} (h:b≠0):zO a b≠0:=by
 unfold zO;split
 ·exact h
 assumption
theorem BS.Good.new:BS.new.Good:=⟨λ_=>rfl,λ_ z hz=>absurd hz List.not_mem_nil,λ_=>Nat.le_refl _,λ_=>Nat.le_refl _,λ_=>Nat.le_refl _,λ_=>Nat.le_refl _,λ_ z hz=>absurd hz List.not_mem_nil,λ_ z hz=>absurd hz List.not_mem_nil⟩
end Go.Proofs.YtdjoffgkndncfaaGreat
namespace Go.Proofs.YtdjoffgkndncfaaGreat
open Go.Proofs.Tryz
open Go Go.ChangeShapes Go.WideShapes Go.ChangeAt Go.RowKit Go.Joins Go.Deep
open Ft (V3 vV okV ValsAt inlineB legalB packF codeF typedF allF oneF fitsF belowW)
variable {v:V3} {jB w:Int} {b:List UInt8}
theorem DT {x:BS} (he:x.e=0) (hs:x.s.2=0) (hl:x.stk.length+1≤65536):x.push v={x with stk:=x.stk++[v]}:=by
 obtain⟨s,e,stk,a,b,c,d,f⟩:=x;dsimp only at he hs hl;subst he;unfold BS.push;have h0:zO 0 s.2=0:=by unfold zO;rw[if_pos rfl];exact hs
 dsimp only;rw[if_pos h0,if_pos hl]
theorem mR (hw:isW w=true) (h:(b.length:Int)+j8 b w≤jB):jL jB w (b,0)=(b++kD (j8 b w),0):=by
 unfold jL;rw[if_pos hw];exact J1 _ _ _ (by rw[jT];exact h)
def Y5 (p w:Int) (v:V3):Int:=if inlineB v.1 then yD v.2.2 w else p - v.2.2
def cE (w:Int) (v:V3):UInt8:=UInt8.ofNat (packF v.1 (if inlineB v.1 then w else v.2.1)).1.toNat
def aQ (b:List UInt8) (v:V3):List UInt8:=
 let w:=oneF v.1 v.2.1 v.2.2 b.length 0
 b++[kD (j8 b w),k8 w.toNat (Y5 ((b.length:Int)+j8 b w) w v).toNat,[cE w v,UInt8.ofNat w.toNat]].flatten
theorem one_isW {t wd n p:Int} (h:oneF t wd n p 0≠0):isW (oneF t wd n p 0)=true:=by
 unfold oneF at h⊢;split at h
 ·rename_i hc;rw[if_pos hc];unfold Ft.leastOf at h⊢
  repeat' split at h
  all_goals simp_all [isW]
 exact absurd rfl h
theorem Q5 (hb:b.length≤1048576) (hn:aN b.length v):isW (oneF v.1 v.2.1 v.2.2 b.length 0)=true∧fitsF v.1 v.2.1 v.2.2 b.length 0 (oneF v.1 v.2.1 v.2.2 b.length 0)=true:=by
 obtain⟨_,ho,h1,h2⟩:=hn;have hp8:(2:Int) ^ (8*(8:Int).toNat)=18446744073709551616:=by decide
 have h8:fitsF v.1 v.2.1 v.2.2 b.length 0 8=true:=by
  unfold fitsF
  cases hi:inlineB v.1 with
  | true=>simp;exact h1 hi
  | false=>
   have h3:=h2 hi;have h4:=ho.1;simp only[Bool.false_eq_true,if_false,Bool.and_eq_true,decide_eq_true_eq,belowW,hp8];exact⟨h3,by omega⟩
 have e:oneF v.1 v.2.1 v.2.2 b.length 0=Ft.leastOf (λw=>fitsF v.1 v.2.1 v.2.2 b.length 0 w):=by
  unfold oneF;rw[if_pos ⟨⟨by omega,by omega⟩,by omega,by omega⟩]
 have h0:oneF v.1 v.2.1 v.2.2 b.length 0≠0:=by rw[e];exact cW (p:=λw=>fitsF v.1 v.2.1 v.2.2 b.length 0 w) h8
 refine⟨one_isW h0,?_⟩;have:=QO (p:=λw=>fitsF v.1 v.2.1 v.2.2 b.length 0 w) (by rw[← e];exact h0);rw[← e] at this;exact this
theorem pX (hw:isW w=true) (hn:aN b.length v) (hf:fitsF v.1 v.2.1 v.2.2 b.length 0 w=true) :
 0≤Y5 ((b.length:Int)+j8 b w) w v∧Y5 ((b.length:Int)+j8 b w) w v < 2 ^ (8*w.toNat):=by
 unfold Y5;unfold fitsF at hf
 cases hi:inlineB v.1 with
 | true=>
  simp only[if_true];exact B7 _ _
 | false=>
  rw[hi] at hf;simp only[Bool.false_eq_true,if_false,Bool.and_eq_true,decide_eq_true_eq,belowW,Int.zero_mul,Int.add_zero] at hf⊢;rw[cV hw];have hge:(b.length:Int)≤((b.length:Int)+w - 1) / w*w:=by rcases zW hw with rfl | rfl | rfl | rfl<;>omega
  exact⟨by omega,hf.2⟩
theorem dB (hw:isW (oneF v.1 v.2.1 v.2.2 b.length 0)=true):((aQ b v).length:Int)=b.length+j8 b (oneF v.1 v.2.1 v.2.2 b.length 0)+oneF v.1 v.2.1 v.2.2 b.length 0+2:=by
 have hp:=zA hw;unfold aQ;simp only[List.flatten_cons,List.flatten_nil,List.length_append,jT,kF,List.length_cons,List.length_nil];omega
theorem tF {x:BS} (he:x.e=0) (hs:x.s=(b,0)) (hk:x.stk=[v]) (hb:b.length≤1048576) (hbm:(b.length:Int)≤jB) (hn:aN b.length v) :
 (x.finish jB).1=(eC (qQ jB [kD (j8 b (oneF v.1 v.2.1 v.2.2 b.length 0)),k8 (oneF v.1 v.2.1 v.2.2 b.length 0).toNat (Y5 ((b.length:Int)+j8 b (oneF v.1 v.2.1 v.2.2 b.length 0)) (oneF v.1 v.2.1 v.2.2 b.length 0) v).toNat,[cE (oneF v.1 v.2.1 v.2.2 b.length 0) v,UInt8.ofNat (oneF v.1 v.2.1 v.2.2 b.length 0).toNat]] (b,0)),(qQ jB [kD (j8 b (oneF v.1 v.2.1 v.2.2 b.length 0)),k8 (oneF v.1 v.2.1 v.2.2 b.length 0).toNat (Y5 ((b.length:Int)+j8 b (oneF v.1 v.2.1 v.2.2 b.length 0)) (oneF v.1 v.2.1 v.2.2 b.length 0) v).toNat,[cE (oneF v.1 v.2.1 v.2.2 b.length 0) v,UInt8.ofNat (oneF v.1 v.2.1 v.2.2 b.length 0).toNat]] (b,0)).2):=by
 obtain⟨hw,hf⟩:=Q5 hb hn;unfold BS.finish;have h0:(if x.stk.length≠1 then x.fail 140 else x)=x:=by rw[hk];rfl
 simp only[h0,he,hs,hk,ne_eq,not_true_eq_false,if_false,zq4];generalize oneF v.1 v.2.1 v.2.2 b.length 0=w at *;have hr:=pX hw hn hf;have hpw:=DP hw;have e1:jL jB w (b,0)=kQ jB (kD (j8 b w)) (b,0):=by unfold jL;rw[if_pos hw]
 rw[e1]
 have key:kQ jB [UInt8.ofNat (packF v.1 (if inlineB v.1=true then w else v.2.1)).1.toNat,UInt8.ofNat w.toNat] (j9 jB w (if inlineB v.1=true then yD v.2.2 w else IntKind.u64.wrap (((kQ jB (kD (j8 b w)) (b,0)).1.length:Int) - v.2.2)) (kQ jB (kD (j8 b w)) (b,0)))=qQ jB [kD (j8 b w),k8 w.toNat (Y5 ((b.length:Int)+j8 b w) w v).toNat,[cE w v,UInt8.ofNat w.toNat]] (b,0):=by
  show kQ jB _ (j9 jB w _ _)=kQ jB _ (kQ jB _ (kQ jB (kD (j8 b w)) (b,0)));by_cases hfit:(b.length:Int)+j8 b w≤jB
  ·rw[J1 _ _ _ (by rw[jT];exact hfit)]
   have hn2:(if inlineB v.1=true then yD v.2.2 w else IntKind.u64.wrap (((b++kD (j8 b w),(0:Int)).1.length:Int) - v.2.2))=Y5 ((b.length:Int)+j8 b w) w v:=by
    unfold Y5 at hr⊢
    have hl:(((b++kD (j8 b w),(0:Int)).1.length:Nat):Int)=(b.length:Int)+j8 b w:=by
     show ((b++kD (j8 b w)).length:Int)=_;rw[List.length_append,jT];omega
    split
    ·rfl
    rename_i hi;rw[if_neg hi] at hr;rw[hl,IntKind.wrap_u64];omega
   rw[hn2,Z7 hw hr.2];rfl
  have h5:kQ jB (kD (j8 b w)) (b,0)=(b,5):=bP (by rw[jT];exact hfit);rw[h5,mI (s:=(b,5)) (show (5:Int)≠0 by decide),Y3 (s:=(b,5)) (show (5:Int)≠0 by decide),Y3 (s:=(b,5)) (show (5:Int)≠0 by decide),Y3 (s:=(b,5)) (show (5:Int)≠0 by decide)]
 rw[key];simp only[List.length_cons,List.length_nil,Nat.zero_add,not_true_eq_false,if_false,he]
theorem FL {x:BS} (he:x.e=0) (hs:x.s=(b,0)) (hk:x.stk=[v]) (hb:b.length≤1048576) (hn:aN b.length v) (hm:((aQ b v).length:Int)≤jB):(x.finish jB).1=(aQ b v,0):=by
 have hl:=dB (Q5 hb hn).1;have hp:=zA (Q5 hb hn).1;rw[tF he hs hk hb zo hn]
 have e:=YR (jB:=jB) [kD (j8 b (oneF v.1 v.2.1 v.2.2 b.length 0)),k8 (oneF v.1 v.2.1 v.2.2 b.length 0).toNat (Y5 ((b.length:Int)+j8 b (oneF v.1 v.2.1 v.2.2 b.length 0)) (oneF v.1 v.2.1 v.2.2 b.length 0) v).toNat,[cE (oneF v.1 v.2.1 v.2.2 b.length 0) v,UInt8.ofNat (oneF v.1 v.2.1 v.2.2 b.length 0).toNat]] b (by
  have h2:((aQ b v).length:Int)=b.length+([kD (j8 b (oneF v.1 v.2.1 v.2.2 b.length 0)),k8 (oneF v.1 v.2.1 v.2.2 b.length 0).toNat (Y5 ((b.length:Int)+j8 b (oneF v.1 v.2.1 v.2.2 b.length 0)) (oneF v.1 v.2.1 v.2.2 b.length 0) v).toNat,[cE (oneF v.1 v.2.1 v.2.2 b.length 0) v,UInt8.ofNat (oneF v.1 v.2.1 v.2.2 b.length 0).toNat]].flatten.length:Nat):=by
   unfold aQ;rw[List.length_append];omega
  omega)
 rw[e];rfl
end Go.Proofs.YtdjoffgkndncfaaGreat
namespace Go.Proofs.YtdjoffgkndncfaaGreat
open Go.Proofs.Tryz
open Go Go.ChangeShapes Go.WideShapes Go.ChangeAt Go.RowKit Go.Joins Go.Deep
open Ft (V3 vV okV ValsAt inlineB legalB packF codeF typedF allF)
variable {w:World} {p n g c i B:Nat} {S:Nat→Prop} {l:qI} {o:Oper} {a:Act} {K:Act→World→Prop} {Q:Exit→Act→World→Prop} {v x:Value} {xs:List Value} {jB jD:Int} {κ:Nat→Nat}
def mT (w:World) (B:Nat) (v:Value) (L:List Int):Prop:=w.ownsRow B 3 1 v L.length (L.map (Value.int .i64))
def qK (w:World) (p:Nat) (S:Nat→Prop) (l:qI):Prop:=
 S p∧∃kv av,w.heap[p]? = some (.cells #[kv,av,.bool true] 171 (0,0))∧zG w 0 kv (V2 l)∧mT w 0 av (QZ l)∧(∀g,kv.ownBlock=some g→S g)∧∀g,av.ownBlock=some g→S g
section
variable {w w':World} {p:Nat} {S S' T:Nat→Prop} {l:qI}
theorem qK.kept (h:qK w p S l) (hm:Moved T w w') (hd:∀k,S k→¬T k):qK w' p S l:=by
 obtain⟨h0,kv,av,h1,h2,h3,h4,h5⟩:=h;exact⟨h0,kv,av,hm.heap h1 (hd _ h0),hm.owns h2 (λk hk=>hd k (h4 k hk)),hm.owns h3 (λk hk=>hd k (h5 k hk)),h4,h5⟩
theorem qK.mono (h:qK w p S l) (hs:∀k,k < w.heap.size→S k→S' k):qK w p S' l:=by
 obtain⟨h0,kv,av,h1,h2,h3,h4,h5⟩:=h;exact⟨hs _ (Array.getElem?_eq_some_iff.1 h1).1 h0,kv,av,h1,h2,h3,λg hg=>hs g (YN h2 hg) (h4 g hg),λg hg=>hs g (YN h3 hg) (h5 g hg)⟩
theorem qK.grew (h:qK w p S l) (hg:jC w w'):qK w' p S l:=h.kept (Moved.of_grew (S:=λ_=>False) hg) (λ_ _ h=>h)
theorem tG {B:Nat} {e:TypeId} {a:Option Addr} {n c:Nat} {xs:List Value} (h:w.ownsRow B e 1 (.slice a n c) n xs) {i:Nat} {x:Value} (hx:xs[i]? = some x):∃g,a=some ⟨g,0,none⟩∧w.cell? ⟨g,i,none⟩=some x:=by
 rcases h.2 with ⟨e,hn⟩|⟨g,cap,cur,e,_⟩
 ·have h1:=h.1;have:=(List.getElem?_eq_some_iff.1 hx).1;omega
 injection e with e1 e2 e3;subst e1;have:=World.ownsRow.cells h (g:=g) rfl i x hx;rw[nY,Nat.zero_add] at this;exact⟨g,rfl,this⟩
end
theorem Q6 (h:qK w p S l):Calls prog 232 #[jI p] w λr w'=>r=.returned (.bool false)∧w'=w:=by
 obtain⟨_,kv,av,h1,_⟩:=h;obtain⟨c0,c1,c2⟩:=QB h1;clear h1;go_enter func232,ntmps232;go_wp2;go_ret;exact⟨rfl,rfl⟩
theorem mU (w:World):Calls prog 72 #[] w λr w'=>r=.returned (jI w.heap.size)∧qK w' w.heap.size (λk=>k=w.heap.size) []∧jC w w'∧w'.heap.size=w.heap.size+1:=by
 go_enter func72,ntmps72;go_wp2;go_ret;exact⟨rfl,⟨rfl,_,_,heap_alloc_new _ _,World.ownsRow_nil _ _ _ _,World.ownsRow_nil _ _ _ _,λg hg=>(by cases hg),λg hg=>(by cases hg)⟩,(jC.refl w).alloc _,World.size_alloc _ _⟩
theorem fT (k:ByteArray) (h:qK w p S l) :
 Calls prog 233 #[jI p,.string k] w λr w'=>r=.returned (.tuple #[.int .i64 (vQ l k:Nat),.bool (sT l k)])∧jC w w':=by
 obtain⟨_,kv,av,h1,h2,_⟩:=h;obtain⟨K,hK⟩:∃K,V2 l=K:=⟨_,rfl⟩;have hP:vQ l k=J8 K k 0 K.length:=by rw[vQ,hK,← hK,YI]
 have hH:sT l k=decide (K[vQ l k]? = some k):=by rw[sT,hK]
 rw[hH,hP];rw[hK] at h2;clear hP hH hK;obtain⟨c0,c1,c2⟩:=QB h1;obtain⟨a,c,rfl,hlc,hcm,_⟩:=jR h2;have HR:Hid (∀(i:Nat) (x:ByteArray),K[i]? = some x→∃g,a=some ⟨g,0,none⟩∧w.cell? ⟨g,i,none⟩=some (.string x)):=λi x hx=>tG h2 oL;unfold kI at hcm;have kE:K.length≤9223372036854775807:=by omega
 clear h1 h2 hlc hcm;go_enter func233,ntmps233;go_wp2_with fail;go_quiet (fail);have G:=(jC.refl w).drewN nq;have HG:=zh G;replace c0:=jC.cell G c0;clear c1 c2
 have HR2:Hid (∀(i:Nat) (x:ByteArray),K[i]? = some x→∃g,a=some ⟨g,0,none⟩∧(w.drewN nq).cell? ⟨g,i,none⟩=some (.string x)):=λi x hx=>by
  obtain⟨g,e,hc⟩:=HR.out i x hx;exact⟨g,e,G.cell hc⟩
 clear G HR;generalize w.drewN nq=x0 at *;go_wp2_with fail
 go_loop [6,7] (λx y=>∃lo hi:Nat,lo≤hi∧hi≤K.length∧x=.int .i64 lo∧y=.int .i64 hi∧Hid (J8 K k lo hi=J8 K k 0 K.length)) (λx y=>(intOf y).toNat - (intOf x).toNat)
 case atStart=>exact⟨0,K.length,by omega,Nat.le_refl _,rfl,rfl,by show _=_;rfl⟩
 case round=>
  obtain⟨lo,hi,h1,h2,rfl,rfl,HE⟩:=hrel;by_cases hlt:lo < hi
  ·have hml:lo≤lo+(hi - lo) / 2:=by omega
   have hmh:lo+(hi - lo) / 2 < hi:=by omega
   obtain⟨x,hx⟩:∃x,K[lo+(hi - lo) / 2]? = some x:=⟨_,List.getElem?_eq_getElem zo⟩
   have hh:J8 K k lo hi=if ltS x k then J8 K k (lo+(hi - lo) / 2+1) hi else J8 K k lo (lo+(hi - lo) / 2):=by
    rw[J8,if_pos hlt];have:K.getD (lo+(hi - lo) / 2) ByteArray.empty=x:=(by simp[List.getD,hx]);rw[this]
   have HH:=zh hh;obtain⟨g,rfl,c3⟩:=HR2.out _ x hx;have HM:=zh (And.intro hml hmh);have hmn:(lo:Int)+((hi:Int) - lo) / 2 < K.length:=by omega
   have hlti:(lo:Int) < hi:=by omega
   have h2i:(hi:Int)≤K.length:=by omega
   clear hh hx hml hmh
   cases hb:ltS x k with
   | true=>
    have HB:=zh hb;clear hb;go_wp2_with fail;refine (fH _ _ _).mono ?_;rw[HB];rintro r w' ⟨rfl,rfl⟩;go_wp2_with fail
    go_round
    case rel=>exact⟨lo+(hi - lo) / 2+1,hi,by have:=HM.out;omega,h2,congrArg (Value.int _) zo,rfl,by
     show _=_
     rw[← HE.out,HH,HB,if_pos rfl]⟩
    case measure=>simp[intOf];omega
   | false=>
    have HB:=zh hb;clear hb;go_wp2_with fail;refine (fH _ _ _).mono ?_;rw[HB];rintro r w' ⟨rfl,rfl⟩;go_wp2_with fail
    go_round
    case rel=>exact⟨lo,lo+(hi - lo) / 2,by have:=HM.out;omega,by have:=HM.out;omega,rfl,congrArg (Value.int _) zo,by
     show _=_
     rw[← HE.out,HH,HB];rfl⟩
    case measure=>simp[intOf];omega
  obtain rfl:lo=hi:=by omega
  have he:J8 K k 0 K.length=lo:=by rw[← HE.out,J8,if_neg zo]
  have HF:=zh he;clear he HE;by_cases hl2:lo < K.length
  ·obtain⟨x,hx⟩:∃x,K[lo]? = some x:=⟨_,List.getElem?_eq_getElem hl2⟩;obtain⟨g,rfl,c3⟩:=HR2.out _ x hx;have hli:(lo:Int) < K.length:=(by omega);have HX:=zh hx;clear hx;have hbe:(x.toList == k.toList)=decide (x=k):=(by rw[cL]);go_wp2_with fail;go_quiet (fail);have HG2:=zh (HG.trans ((jC.refl x0).drewN nq));go_wp2
   go_ret2
   refine⟨?_,HG2.out⟩;rw[HF,HX];simp
  have hli:¬(lo:Int) < K.length:=(by omega);have hl0:K[lo]? = none:=List.getElem?_eq_none zo;have HX:=zh hl0;clear hl0;go_wp2_with fail;go_quiet (fail);have HG2:=zh (HG.trans ((jC.refl x0).drewN nq));go_wp2
  go_ret2
  refine⟨?_,HG2.out⟩;rw[HF,HX];simp
theorem tH (k:ByteArray) (h:qK w p S l) :
 Calls prog 185 #[jI p,.string k] w λr w'=>r=.returned (.tuple #[.int .i64 (qN l k).1,.bool (qN l k).2])∧jC w w':=by
 have HB:=zh h;obtain⟨_,kv,av,h1,h2,h3,_⟩:=h;obtain⟨c0,c1,c2⟩:=QB h1;obtain⟨a,c,rfl,hlc,hcm,_⟩:=jR h3;have HA:=zh h3;have HL:=zh (iV (l:=l) (k:=k));unfold kI at hcm;have kE:(QZ l).length≤9223372036854775807:=by omega
 clear h1 h2 h3 hlc hcm;go_enter func185,ntmps185;go_wp2_with fail;refine (Q6 HB.out).mono ?_;rintro r w' ⟨rfl,rfl⟩;go_wp2_with fail;refine (fT k HB.out).mono ?_;rintro r w2 ⟨rfl,hg⟩
 cases hp:sT l k with
 | true=>
  have hlt:=HL.out hp;have hlt2:(vQ l k:Int) < (QZ l).length:=by rw[QC];omega
  obtain⟨x,hx⟩:∃x,(QZ l)[vQ l k]? = some x:=⟨_,List.getElem?_eq_getElem (by rw[QC];exact hlt)⟩;obtain⟨g,rfl,c3⟩:=tG HA.out (show ((QZ l).map (Value.int .i64))[vQ l k]? = some (.int .i64 x) by simp[hx]);have HE:Hid (qN l k=(x,true)):=by show _=_;rw[qN,hp,if_pos rfl];simp[List.getD_eq_getElem?_getD,hx]
  have d0:=hg.cell c1;have d1:=hg.cell c3;have HG:=zh hg;clear hx hp hlt hg c0 c1 c2 c3;generalize vQ l k=i at *;generalize (QZ l).length=n at *;go_wp2
  go_ret2
  exact⟨by rw[HE];rfl,HG.out⟩
 | false=>
  have HE:Hid (qN l k=(0,false)):=by show _=_;rw[qN,hp];rfl
  have HG:=zh hg;clear hp hg;go_wp2
  go_ret2
  exact⟨by rw[HE];rfl,HG.out⟩
theorem mV:∃i0,Tryz.prog.info? 3=some i0∧i0.zero=some (.int .i64 0)∧i0.size=1∧i0.bytes=8:=by
 have h:=Tryz.infoIntK
 cases hi:Tryz.prog.info? 3 with
 | none=>rw[hi] at h;cases h
 | some i=>
  rw[hi] at h;simp at h;exact⟨i,rfl,h.1,h.2.1,h.2.2⟩
theorem MA (w:World) (s x:Operand) (ho:o.op=.call {callee:=.builtin .append,args:=#[s,x],argTypes:=#[23,23]})
 (v:Value) (ss:List ByteArray) (hs:a.eval s=v) (j5:zG w 0 v ss) (g:Nat) (z:ByteArray) (hx:a.eval x=.slice (some ⟨g,0,none⟩) 1 1) (hc:w.cell? ⟨g,0,none⟩=some (.string z)) (kE:ss.length≤1048577)
 (h:∀v' w',zG w' 0 v' (ss++[z])→w.grownBy w' v.ownBlock→yX w v.ownBlock v'.ownBlock→K (a.put o.dst v') w'):o.wp prog a w K Q:=by
 obtain⟨i0,hi,hz0,hz1,hz2⟩:=fC
 obtain⟨v',w',hr,h2,h3,h4⟩:=vT (P:=prog) w 0 23 o.type 9 i0 (.string ⟨#[]⟩) 1 16 underlying23 hi hz0 hz1 hz2 rfl zd v ss.length _ j5 ⟨g,0,none⟩ 1 1 [.string z] rfl (λj u hj=>by
  have hj0:j=0:=by have:=(List.getElem?_eq_some_iff.1 hj).1;simp at this;omega
  subst hj0;simp at hj;subst hj
  rw[nY];exact hc) (by intro u hu;simp at hu;subst hu;rfl) gM zo (Nat.zero_le _)
 refine Lib.wp_append_run w s x 23 23 ho v _ hs hx v' w' hr (h v' w' ?_ h3 h4);unfold zG;rw[List.length_append,List.map_append];exact h2
theorem MB (w:World) (s x:Operand) (ho:o.op=.call {callee:=.builtin .append,args:=#[s,x],argTypes:=#[40,40]})
 (v:Value) (ss:List Int) (hs:a.eval s=v) (j5:mT w 0 v ss) (g:Nat) (z:Int) (hx:a.eval x=.slice (some ⟨g,0,none⟩) 1 1) (hc:w.cell? ⟨g,0,none⟩=some (.int .i64 z)) (kE:ss.length≤1048577)
 (h:∀v' w',mT w' 0 v' (ss++[z])→w.grownBy w' v.ownBlock→yX w v.ownBlock v'.ownBlock→K (a.put o.dst v') w'):o.wp prog a w K Q:=by
 obtain⟨i0,hi,hz0,hz1,hz2⟩:=mV
 obtain⟨v',w',hr,h2,h3,h4⟩:=vT (P:=prog) w 0 40 o.type 3 i0 (.int .i64 0) 1 8 underlying40 hi hz0 hz1 hz2 rfl zd v ss.length _ j5 ⟨g,0,none⟩ 1 1 [.int .i64 z] rfl (λj u hj=>by
  have hj0:j=0:=by have:=(List.getElem?_eq_some_iff.1 hj).1;simp at this;omega
  subst hj0;simp at hj;subst hj
  rw[nY];exact hc) (by intro u hu;simp at hu;subst hu;rfl) gM zo (Nat.zero_le _)
 refine Lib.wp_append_run w s x 40 40 ho v _ hs hx v' w' hr (h v' w' ?_ h3 h4);unfold mT;rw[List.length_append,List.map_append];exact h2
abbrev xH (a b:Value):Obj:=.cells #[a,b,.bool true] 171 (0,0)
section
variable (q:Nat) (kv av:Value) (K:List ByteArray) (A:List Int) (w0:World)
def LayS (k:Nat):Prop:=k=q∨kv.ownBlock=some k∨av.ownBlock=some k
def LayW:Nat→World→Prop
 | 0,w=>jC w0 w
 | 1,w=>w.heap[q]? = some (xH kv av)∧mT w 0 av A∧Moved (LayS q kv av) w0 w
 | 2,w=>w.heap[q]? = some (xH kv av)∧Moved (LayS q kv av) w0 w
 | 3,w=>(w.cell? ⟨q,1,none⟩=some av∧w.frozen? ⟨q,1,none⟩=false)∧∃kv',w.heap[q]? = some (xH kv' av)∧zG w 0 kv' (K++[⟨#[]⟩])∧yX w0 kv.ownBlock kv'.ownBlock∧Moved (LayS q kv av) w0 w
 | _,w=>∃kv' av',w.heap[q]? = some (xH kv' av')∧zG w 0 kv' (K++[⟨#[]⟩])∧yX w0 kv.ownBlock kv'.ownBlock∧mT w 0 av' (A++[0])∧yX w0 av.ownBlock av'.ownBlock∧Moved (LayS q kv av) w0 w
def LayT:Nat→World→World→Prop
 | 0,w,w'=>Moved (λk=>kv.ownBlock=some k) w w'
 | 1,w,w'=>mT w 0 av A∧Moved (λk=>av.ownBlock=some k) w w'
 | _,w,w'=>(∃a b,w.heap[q]? = some (xH a b))∧Moved (λk=>k=q) w w'
def LayK (p:Nat) (v:Value) (w:World):Prop:=p≠0∧(p≤2→zG w 0 v (K++[⟨#[]⟩])∧yX w0 kv.ownBlock v.ownBlock)
def LayA (p:Nat) (v:Value) (w:World):Prop:=2≤p∧(p≤3→mT w 0 v (A++[0])∧yX w0 av.ownBlock v.ownBlock)
def oH (m:Nat) (z:Value) (t:TypeId) (p:Nat) (v:Value) (w:World):Prop:=p≤m→∃g,v=.slice (some ⟨g,0,none⟩) 1 1∧w0.heap.size≤g∧w.heap[g]? = some (.cells #[z] t (0,0))
variable {q kv av K A w0}
theorem LayW.grew:∀(p:Nat) (w w':World),jC w w'→LayW q kv av K A w0 p w→LayW q kv av K A w0 p w'
 | 0,w,w',h,k=>jC.trans k h
 | 1,w,w',h,⟨k1,k2,k3⟩=>⟨h.heap k1,yI k2 h,k3.grew h⟩
 | 2,w,w',h,⟨k1,k3⟩=>⟨h.heap k1,k3.grew h⟩
 | 3,w,w',h,⟨k0,kv',k1,k2,k3,k4⟩=>⟨⟨h.cell k0.1,jE (h.heap k1) 1⟩,kv',h.heap k1,yI k2 h,k3,k4.grew h⟩
 | p+4,w,w',h,⟨kv',av',k1,k2,k3,k4,k5,k6⟩=>⟨kv',av',h.heap k1,yI k2 h,k3,yI k4 h,k5,k6.grew h⟩
theorem LayK.st:(∀p v w w',jC w w'→LayK kv K w0 p v w→LayK kv K w0 p v w')∧∀p v w w',LayT q kv av A p w w'→LayK kv K w0 p v w→LayK kv K w0 (p+1) v w':=by
 refine⟨λp v w w' hg h=>⟨h.1,λhp=>⟨yI (h.2 hp).1 hg,(h.2 hp).2⟩⟩,λp v w w' ht h=>⟨by omega,λhp=>?_⟩⟩
 match p,ht,h with
 | 0,_,h=>exact absurd rfl h.1
 | 1,ht,h=>
  obtain⟨h1,h2⟩:=h.2 zo;exact⟨ht.2.owns h1 (λk hk hk2=>cY ht.1 h1 zd hk2 hk),h2⟩
 | p+2,_,_=>omega
theorem LayA.st:(∀p v w w',jC w w'→LayA av A w0 p v w→LayA av A w0 p v w')∧∀p v w w',LayT q kv av A p w w'→LayA av A w0 p v w→LayA av A w0 (p+1) v w':=by
 refine⟨λp v w w' hg h=>⟨h.1,λhp=>⟨yI (h.2 hp).1 hg,(h.2 hp).2⟩⟩,λp v w w' ht h=>⟨by have:=h.1;omega,λhp=>?_⟩⟩
 match p,ht,h with
 | 0,_,h=>exact absurd h.1 zo
 | 1,_,h=>exact absurd h.1 zo
 | p+2,ht,h=>
  obtain⟨h1,h2⟩:=h.2 zo;obtain⟨⟨a,b,hq⟩,hm⟩:=ht;exact⟨hm.owns h1 (λk hk e=>vL h1 hq zd (by rw[hk,e])),h2⟩
theorem LayN0.st {z:Value} {t:TypeId}:(∀p v w w',jC w w'→oH w0 0 z t p v w→oH w0 0 z t p v w')∧∀p v w w',LayT q kv av A p w w'→oH w0 0 z t p v w→oH w0 0 z t (p+1) v w':=
 ⟨λp v w w' hg h hp=>by obtain⟨g,e,h1,h2⟩:=h hp;exact⟨g,e,h1,hg.heap h2⟩,λp v w w' ht h hp=>by omega⟩
theorem LayN1.st {z:Value} {t:TypeId} (hk:∀k,kv.ownBlock=some k→k < w0.heap.size):(∀p v w w',jC w w'→oH w0 1 z t p v w→oH w0 1 z t p v w')∧∀p v w w',LayT q kv av A p w w'→oH w0 1 z t p v w→oH w0 1 z t (p+1) v w':=by
 refine⟨λp v w w' hg h hp=>by obtain⟨g,e,h1,h2⟩:=h hp;exact⟨g,e,h1,hg.heap h2⟩,λp v w w' ht h hp=>?_⟩;have hp0:p=0:=by omega
 subst hp0;obtain⟨g,e,h1,h2⟩:=h zo;exact⟨g,e,h1,Moved.heap ht h2 (λhq=>by have:=hk g hq;omega)⟩
end
/-! ### rows of one-cell elements: shifting, storing -/
theorem pY {e:TypeId} (h:w.ownsRow 0 e 1 v (n+1) xs):∃g c,v=.slice (some ⟨g,0,none⟩) (n+1) c∧n+1≤c∧c≤9223372036854775807:=by
 rcases h.2 with ⟨_,hn⟩|⟨g,cap,cur,e,_,_,hn,hm,_⟩
 ·omega
 exact⟨g,cap,e,hn,by unfold maxLen at hm;exact hm⟩
theorem xI {e:TypeId} (h:w.ownsRow 0 e 1 (.slice (some ⟨g,0,none⟩) n c) n xs) (i:Nat) (u:Value):(w.setCell ⟨g,i,none⟩ u).ownsRow 0 e 1 (.slice (some ⟨g,0,none⟩) n c) n (xs.set i u):=by
 refine⟨by rw[List.length_set];exact h.1,?_⟩;rcases h.2 with ⟨he,hn⟩|⟨g1,cap,cur,he,hb,hg,hn,hm,hs,ht⟩
 ·cases he
 cases he;have hh:=heap_setCell_same w g i cur e u hg;refine .inr ⟨g,c,_,rfl,hb,hh,hn,hm,by simpa using hs,?_⟩;rw[Array.toList_setIfInBounds,List.take_set,ht]
theorem xJ {α:Type} (L:List α) (off:Nat) (cs:List α) (n:Nat) (h:off+cs.length≤n) (hn:n≤L.length):(splice L off cs).take n=splice (L.take n) off cs:=by
 unfold splice;have hl:(L.take off).length=off:=by rw[List.length_take];omega
 rw[List.take_append,hl,List.take_append,List.take_of_length_le (l:=L.take off) zo,List.take_of_length_le (l:=cs) zo,List.take_take,Nat.min_eq_left zo,List.drop_take,Nat.sub_sub]
theorem cF (w:World) (d s:Operand) (dT:TypeId) (ho:o.op=.call {callee:=.builtin .copy,args:=#[d,s],argTypes:=#[dT,dT]}) (elem:TypeId) (hu:Tryz.prog.underlying dT=some (.slice elem)) (hsz:(Tryz.prog.info? elem).map (·.size)=some 1)
 (g n c:Nat) (xs:List Value) (j5:w.ownsRow 0 elem 1 (.slice (some ⟨g,0,none⟩) (n+1) c) (n+1) xs) (h1:∀v∈xs,v.oneCell'=true) (i:Nat) (hi:i≤n) (da:Option Addr) (dc sc:Nat) (hda:i < n→da=some ⟨g,i+1,none⟩)
 (hd:a.eval d=.slice da (n - i) dc) (hs:a.eval s=.slice (some ⟨g,i,none⟩) (n+1 - i) sc)
 (h:∀v w',w'.ownsRow 0 elem 1 (.slice (some ⟨g,0,none⟩) (n+1) c) (n+1) (splice xs (i+1) ((xs.drop i).take (n - i)))→Moved (λk=>k=g) w w'→K (a.put o.dst v) w'):o.wp prog a w K Q:=by
 have hown0:=j5;have hlx:xs.length=n+1:=by have:=j5.1;omega
 by_cases h0:n - i=0
 ·have hrun:=run_copy_none (P:=prog) w dT dT o.type elem da (some ⟨g,i,none⟩) (n - i) dc (n+1 - i) sc hu hsz (by rw[h0];exact Nat.min_zero _)
  have hx:splice xs (i+1) ((xs.drop i).take (n - i))=xs:=by
   unfold splice;rw[h0,List.take_zero,List.nil_append];simp
  rw[hx] at h;unfold Oper.wp;simp[execOp,ho,resolve,invoke,builtin,hd,hs,hrun,Result.andThen];exact h _ w hown0 (Moved.refl _ w)
 have hda':=hda zo;subst hda';rcases j5.2 with ⟨he,hn⟩|⟨g1,cap,cur,he,hb,hg,hn,hm,hsize,ht⟩
 ·cases he
 cases he;rw[Nat.mul_one] at ht hsize;have hlc:((xs.drop i).take (n - i)).length=n - i:=by simp;omega
 have hcs:∀j v,((xs.drop i).take (n - i))[j]? = some v→w.cell? ((⟨g,i,none⟩:Addr).add j)=some v:=by
  intro j v hj;have hjl:j < n - i:=(by have:=(List.getElem?_eq_some_iff.1 hj).1;omega);rw[List.getElem?_take,if_pos hjl,List.getElem?_drop] at hj;have:=World.ownsRow.cells hown0 (g:=g) rfl (i+j) v hj;rw[nY] at this;rw[VB _ g i j rfl]
  rwa [Nat.zero_add] at this
 have hrun:=run_copy_row (P:=prog) w dT dT o.type elem g (i+1) (n - i) dc ⟨g,i,none⟩ (n+1 - i) sc cur elem ((xs.drop i).take (n - i)) hu hsz hg (by rw[hlc];exact (Nat.min_eq_right (by omega)).symm) hcs (by rw[hlc];omega) (λv hv=>h1 v (List.mem_of_mem_drop (List.mem_of_mem_take hv)));unfold Oper.wp;simp[execOp,ho,resolve,invoke,builtin,hd,hs,hrun,Result.andThen];refine h _ _ ⟨?_,.inr ⟨g,c,_,rfl,Nat.zero_le _,setRow_heap w g cur _ elem _ hg,hn,hm,?_,?_⟩⟩ ⟨rfl,rfl,rfl,by simp[World.setRow],λk hk hne=>setRow_other w g k _ hne⟩
 ·rw[length_splice _ _ _ (by rw[hlc];omega)];omega
 ·simp;omega
 rw[Nat.mul_one];have e:cur.toList.take (i+1)++(xs.drop i).take (n - i)++cur.toList.drop (i+1+((xs.drop i).take (n - i)).length)=splice cur.toList (i+1) ((xs.drop i).take (n - i)):=(by unfold splice;rw[List.append_assoc]);have e2:=xJ cur.toList (i+1) ((xs.drop i).take (n - i)) (n+1) (by rw[hlc];omega) zp6;rw[ht] at e2;simpa [List.append_assoc,splice] using e2
def CpW (wA:World) (g:Nat) (e:TypeId) (v:Value) (n:Nat) (xs:List Value):Nat→World→Prop
 | 0,w=>jC wA w
 | _,w=>w.ownsRow 0 e 1 v n xs∧Moved (λk=>k=g) wA w
theorem CpW.grew {wA:World} {e:TypeId}:∀(p:Nat) (w w':World),jC w w'→CpW wA g e v n xs p w→CpW wA g e v n xs p w'
 | 0,w,w',h,k=>jC.trans k h
 | p+1,w,w',h,⟨k1,k2⟩=>⟨yI k1 h,k2.grew h⟩
theorem pZ {e:TypeId} (h:w.ownsRow 0 e 1 (.slice (some ⟨g,0,none⟩) n c) n xs) (hx:xs[i]? = some x):w.cell? ⟨g,i,none⟩=some x:=by
 obtain⟨g',e',hc⟩:=tG h hx;cases e';exact hc
theorem p6 {e:TypeId} (h:w.ownsRow 0 e 1 (.slice (some ⟨g,0,none⟩) n c) n xs) (i:Nat):w.frozen? ⟨g,i,none⟩=false:=by
 rcases h.2 with ⟨he,hn⟩|⟨g1,cap,cur,he,hb,hg,_⟩
 ·cases he
 cases he;exact jE hg i
def StW (wD:World) (gk ga kc ac n i:Nat) (e1 e2:TypeId) (KS AS:List Value) (x y:Value):Nat→World→Prop
 | 0,w=>jC wD w
 | 1,w=>w.ownsRow 0 e1 1 (.slice (some ⟨gk,0,none⟩) n kc) n (KS.set i x)∧w.ownsRow 0 e2 1 (.slice (some ⟨ga,0,none⟩) n ac) n AS∧Moved (λk=>k=gk∨k=ga) wD w
 | _,w=>w.ownsRow 0 e1 1 (.slice (some ⟨gk,0,none⟩) n kc) n (KS.set i x)∧w.ownsRow 0 e2 1 (.slice (some ⟨ga,0,none⟩) n ac) n (AS.set i y)∧Moved (λk=>k=gk∨k=ga) wD w
theorem StW.grew {wD:World} {gk ga kc ac:Nat} {e1 e2:TypeId} {KS AS:List Value} {y:Value}:∀(p:Nat) (w w':World),jC w w'→StW wD gk ga kc ac n i e1 e2 KS AS x y p w→StW wD gk ga kc ac n i e1 e2 KS AS x y p w'
 | 0,w,w',h,k=>jC.trans k h
 | 1,w,w',h,⟨k1,k2,k3⟩=>⟨yI k1 h,yI k2 h,k3.grew h⟩
 | p+2,w,w',h,⟨k1,k2,k3⟩=>⟨yI k1 h,yI k2 h,k3.grew h⟩
theorem xK {α:Type} (f:α→Value) (L:List α) (z x:α) (n i:Nat) (hn:L.length=n) (hi:i≤n) :
 (splice ((L++[z]).map f) (i+1) ((((L++[z]).map f).drop i).take (n - i))).set i (f x)=(Q2 L i x).map f:=by
 have e1:(L++[z]).map f=L.map f++[f z]:=by simp
 have e2:((L.map f++[f z]).drop i).take (n - i)=(L.map f).drop i:=by
  rw[List.drop_append_of_le_length zp6,List.take_append_of_le_length zp6,List.take_of_length_le zp6]
 rw[e1,e2,wP _ _ _ _ zp6];simp[Q2,List.map_take,List.map_drop]
def sqE1 (i:Nat) (D:List (List Nat)):List (Nat × Nat)→List (Nat × Nat)
  | p::F=>bif i==p.2||(D.getD p.2 []).contains i then sqE1 i D F else p::sqE1 i D F
  | []=>[]
def sqE2 (D:List (List Nat)) (F:List (Nat × Nat)):Nat→List (List Nat)→List (List (Nat × Nat))
  | i,_::r=>sqE1 i D F::sqE2 D F (i+1) r
  | _,[]=>[]
theorem sqe {p : Prop} (h : p := by simp only[sqE2,sqE1,zq4,zq5,List.contains,List.elem,Nat.reduceAdd,Nat.reduceBEq,BEq.rfl,Bool.or_true,Bool.true_or,Bool.or_false,Bool.or_self,cond_true,cond_false];rfl) : p := h
theorem sqQ {P:Program} {ops:Array Oper} {id:Nat} {a0:Act} {w0:World} {Q:Exit→Act→World→Prop} (ms:List Nat) (W:Nat→World→Prop) (S:Nat→World→World→Prop) (T:Nat→(Nat→Value)→World→World→Prop) (D:List (List Nat)) (F:List (Nat × Nat)) (Φ:List (Nat→Value→World→Prop)) {C:List (List (Nat × Nat))} (hz:sqE2 D F 0 D=C) (hm:P.follows .mixedOrders=true)
 (hSW:∀p w w',S p w w'→W p w→W p w') (hW0:W 0 w0.drew) (hchk:KJ ops D C F=true) (hch:VA D ops.size ms=true) (hst:stP S T 0 Φ)
 (kE:Φ.length=ops.size)
 (hfin:∀y w,W ms.length w→yR y w ms.length 0 Φ→Q .normal (jF y F a0) w)
 (hop:allWP P ops ms W S T D Φ a0 0 ops.toList D C):(Code.region id ops true).wp P Q a0 w0:=by
 simp only[KJ,zg,zp,qu,qw] at hchk;obtain⟨⟨h1,h2⟩,h3⟩:=hchk;subst h2;have hops:=uF D C h3 ops.toList 0 D C zp2 zp2 zp2 hop;refine wp_region_any hm ?_;refine iP (ms:=ms) (W:=W) (S:=S) (T:=T) (Dl:=D) (D:=D.toArray) rfl (Φ:=λj=>Φ.getD j (λ_ _ _=>True)) (a0:=a0) h1 hch hSW (λj p v w w' hs h=>(rZ 0 hst j).1 p v w w' hs h) (λj p y w w' hs h=>(rZ 0 hst j).2 p (y j) w w' ⟨y,by rw[Nat.zero_add],hs⟩ h) (λi o ho=>?_) (λy w hW hj=>hfin y w hW (oR Φ 0 zp2 (λj h=>hj j (by rw[← kE];simpa using h)))) ops.size _ a0 _ (λj=>match (ops[j]?).bind (·.dst) with | some d=>a0.tmps.getD d undef | none=>undef) ?_ ⟨by simp,?_,?_,?_,?_,?_⟩
 ·have:=K4 _ 0 i o hops (by simpa using ho);simpa using this
 ·exact zb9
 ·exact zb10
 ·have h0:y8 (Array.replicate ops.size false) ms=0:=by
   cases ms with
   | nil=>rfl
   | cons m r=>
    have h:(Array.replicate ops.size false).getD m false=false:=(by simp[Array.getD]);unfold y8;rw[h];rfl
  rw[h0];exact hW0
 ·exact A5
 ·exact zb12
 exact A5
theorem lay_any {w0:World} {p0:Nat} (i:Nat) (k:ByteArray) (a:Int) (h:qK w0 p0 S l) (hi:i≤l.length) (hl:l.length≤1048577) :
 Calls prog 234 #[jI p0,.int .i64 i,.string k,.int .i64 a] w0 λr w'=>r=.returned (.tuple #[])∧∃S',qK w' p0 S' (Q2 l i (k,a))∧Y4 S S' w0 w'∧Moved S w0 w':=by
 obtain⟨hS0,kv,av,hst,hok,hoa,hSk,hSa⟩:=h;have HC:=zh (QB hst);have HST:=zh hst;obtain⟨Kl,hK⟩:∃K,V2 l=K:=⟨_,rfl⟩;obtain⟨Al,hA⟩:∃A,QZ l=A:=⟨_,rfl⟩;rw[hK] at hok;rw[hA] at hoa;have HOK:=zh hok;have HOA:=zh hoa;have HLN:Hid (Kl.length≤1048577∧Al.length≤1048577):=by show _∧_;rw[← hK,← hA,YI,QC];exact⟨hl,hl⟩
 have HKB:Hid (∀k,kv.ownBlock=some k→k < w0.heap.size):=λk hk=>YN hok hk
 have HSZ:∀(p:Nat) (w:World),LayW p0 kv av Kl Al w0 p w→w0.heap.size≤w.heap.size:=λp w h=>by
  match p,h with
  | 0,h=>exact jC.size h
  | 1,h=>exact h.2.2.size
  | 2,h=>exact h.2.size
  | 3,⟨_,_,h⟩=>exact h.2.2.2.size
  | p+4,⟨_,_,h⟩=>exact h.2.2.2.2.2.size
 have HLL:=zh (And.intro hK hA);have HSS:=zh (And.intro hS0 (And.intro hSk hSa));have HIL:=zh (And.intro hi hl);obtain⟨n,hn⟩:∃n,l.length=n:=⟨_,rfl⟩;have HN:Hid (Kl.length=n∧Al.length=n):=by show _∧_;rw[← hK,← hA,YI,QC];exact⟨hn,hn⟩
 have HIN:Hid (i≤n):=by show _≤_;rw[← hn];exact hi
 have HNL:Hid (n≤1048577):=by show _≤_;rw[← hn];exact hl
 have SZk:(Tryz.prog.info? 9).map (·.size)=some 1:=by obtain⟨i0,h1,_,h2,_⟩:=fC;rw[h1];simp[h2]
 have SZa:(Tryz.prog.info? 3).map (·.size)=some 1:=by obtain⟨i0,h1,_,h2,_⟩:=mV;rw[h1];simp[h2]
 clear hst hok hoa hS0 hSk hSa hK hA hi hl hn;go_enter func234,ntmps234;go_wp2_with fail;refine sqQ [7,13,16,19] (LayW p0 kv av Kl Al w0) (λ_ w w'=>jC w w') ((λp (_:Nat→Value)=>(LayT p0 kv av Al) p)) [[],[],[],[2],[2,3],[2,3,4],[],[2,3,4,5,6],[],[8],[8,9],[8,9,10],[],[2,3,4,5,6,7,8,9,10,11,12],[0,2,3,4,5,6,7,8,9,10,11,12,13],[0,2,3,4,5,6,7,8,9,10,11,12,13,14],[0,2,3,4,5,6,7,8,9,10,11,12,13,14,15],[0,1,2,3,4,5,6,7,8,9,10,11,12,13,14,15,16],[0,1,2,3,4,5,6,7,8,9,10,11,12,13,14,15,16,17],[0,1,2,3,4,5,6,7,8,9,10,11,12,13,14,15,16,17,18]] [(8,0),(9,1),(10,2),(11,3),(12,4),(13,5),(14,6),(15,7),(16,8),(17,9),(18,10),(19,11),(20,12),(21,13),(22,14),(23,15),(24,17),(25,18)]
  [IsP (jI p0),IsP (jI p0),IsP (jI p0),IsP (jI p0),IsP (jI p0),IsP (kv),oH w0 0 (.string ⟨#[]⟩) 9,LayK kv Kl w0,IsP (jI p0),IsP (jI p0),IsP (.pointer (some ⟨p0,1,none⟩)),IsP (av),oH w0 1 (.int .i64 0) 3,LayA av Al w0,IsP (jI p0),IsP (jI p0),λ_ _ _=>True,IsP (jI p0),IsP (.pointer (some ⟨p0,1,none⟩)),λ_ _ _=>True]
  sqe zk (LayW.grew) ((jC.refl _).drew) zk zk ⟨jG,jG,jG,jG,jG,jG,KK (LayN0.st),KK (LayK.st),jG,jG,jG,jG,KK (LayN1.st HKB.out),KK (LayA.st),jG,jG,⟨λ_ _ _ _ _ h=>h,λ_ _ _ _ _ h=>h⟩,jG,jG,⟨λ_ _ _ _ _ h=>h,λ_ _ _ _ _ h=>h⟩,trivial⟩ rfl ?_ ?_
 ·intro y w2 hW hF;simp only[yR,IsP,Nat.reduceAdd,List.length_cons,List.length_nil] at hF hW;have h6:=hF.2.2.2.2.2.2.1;have h7:=hF.2.2.2.2.2.2.2.1;have h12:=hF.2.2.2.2.2.2.2.2.2.2.2.2.1;have h13:=hF.2.2.2.2.2.2.2.2.2.2.2.2.2.1;simp only[jF,Act.put,zq];simp only[hF];clear hF;clear h7 h13 h6 h12;obtain⟨kv1,av1,hst1,hok1,hnk1,hoa1,hna1,hm1⟩:=hW;have HNN:Hid (Kl.length=n∧Al.length=n):=HN.out;have hrk:w2.ownsRow 0 9 1 kv1 (n+1) ((Kl++[(⟨#[]⟩:ByteArray)]).map Value.string):=by have h:=hok1;unfold zG at h;rw[List.length_append,HNN.1] at h;exact h
  have hra:w2.ownsRow 0 3 1 av1 (n+1) ((Al++[0]).map (Value.int .i64)):=by have h:=hoa1;unfold mT at h;rw[List.length_append,HNN.2] at h;exact h
  clear hok1 hoa1;obtain⟨gk,kc,rfl,hkc,hkm⟩:=pY hrk;obtain⟨ga,ac,rfl,hac,ham⟩:=pY hra;have HM1:=zh (And.intro hnk1 (And.intro hna1 hm1));have HRk:=zh hrk;have HRa:=zh hra;have HST1:=zh hst1;have HBk:Hid (w2.cell? ⟨p0,0,none⟩=some (.slice (some ⟨gk,0,none⟩) (n+1) kc)):=jA hst1 0 _ rfl;have HBa:Hid (w2.cell? ⟨p0,1,none⟩=some (.slice (some ⟨ga,0,none⟩) (n+1) ac)):=jA hst1 1 _ rfl;have HNE:Hid (gk≠p0∧ga≠p0∧gk≠ga):=⟨λe=>vL hrk hst1 zd (by rw[e];rfl),λe=>vL hra hst1 zd (by rw[e];rfl),λe=>cY hrk hra zd rfl (by rw[e];rfl)⟩;have hin:=HIN.out;have hlm:=HNL.out;have hii:(i:Int)+1≤kc:=by omega
  have hia:(i:Int)+1≤ac:=by omega
  have hiu:(i:Int)≤n+1:=by omega
  have hil:(i:Int)≤n:=by omega
  have hki:¬kc=i:=by omega
  have hai:¬ac=i:=by omega
  have hwi:IntKind.i64.wrap ((i:Int)+1)=(i:Int)+1:=by rw[IntKind.wrap_i64];omega
  clear hnk1 hna1 hm1 hst1 hrk hra;generalize w2=wB at *;go_wp2_with fail;refine jQ [13] (CpW wB gk 9 (.slice (some ⟨gk,0,none⟩) (n+1) kc) (n+1) (splice ((Kl++[(⟨#[]⟩:ByteArray)]).map Value.string) (i+1) ((((Kl++[(⟨#[]⟩:ByteArray)]).map Value.string).drop i).take (n - i)))) (λ_ w w'=>jC w w') ((λp (_:Nat→Value)=>(λ_ _ _=>True) p)) [[],[0],[0,1],[0,1,2],[],[4],[0,1,2,3,4,5],[],[7],[7,8],[7,8,9],[],[7,8,9,10,11],[0,1,2,3,4,5,6,7,8,9,10,11,12]] [(26,0),(27,1),(28,2),(29,3),(30,4),(31,5),(32,6),(33,7),(34,8),(35,9),(36,10),(37,11),(38,12),(39,13)]
   [IsP (jI p0),IsP (jI p0),IsP (jI p0),IsP (.slice (some ⟨gk,0,none⟩) (n+1) kc),IsP (.int .i64 i),IsP (.int .i64 (i+1)),λ_ v _=>∃(da:Option Addr) (dc:Nat),v=.slice da (n - i) dc∧(i < n→da=some ⟨gk,i+1,none⟩),IsP (jI p0),IsP (jI p0),IsP (jI p0),IsP (.slice (some ⟨gk,0,none⟩) (n+1) kc),IsP (.int .i64 i),IsP (.slice (some ⟨gk,i,none⟩) (n+1 - i) (kc - i)),λ_ _ _=>True]
   sqc zk (CpW.grew) ((jC.refl _).drew) zk zk ⟨jG,jG,jG,jG,jG,jG,KK (⟨λ_ _ _ _ _ h=>h,λ_ _ _ _ _ h=>h⟩),jG,jG,jG,jG,jG,jG,⟨λ_ _ _ _ _ h=>h,λ_ _ _ _ _ h=>h⟩,trivial⟩ rfl ?_ ?_
  ·intro y w2 hW hF;simp only[yR,IsP,Nat.reduceAdd,List.length_cons,List.length_nil] at hF hW;have h6:=hF.2.2.2.2.2.2.1;simp only[jF,Act.put,zq];simp only[hF];clear hF;obtain⟨hrk2,hmk2⟩:=hW;clear h6;have HMk:=zh hmk2;have HST2:Hid (w2.heap[p0]? = some (xH (.slice (some ⟨gk,0,none⟩) (n+1) kc) (.slice (some ⟨ga,0,none⟩) (n+1) ac))):=hmk2.heap HST1.out (λe=>HNE.1 e.symm);have HRa2:Hid (w2.ownsRow 0 3 1 (.slice (some ⟨ga,0,none⟩) (n+1) ac) (n+1) ((Al++[0]).map (Value.int .i64))):=hmk2.owns HRa.out (λq hq e=>by cases hq;exact HNE.2.2 e.symm);have HRk2:=zh hrk2;clear hrk2 hmk2 HRk HRa HBk HBa HST1;have HRk:=zh HRk2.out;have HRa:=zh HRa2.out;have HST1:=zh HST2.out;clear HRk2 HRa2 HST2;have HBk:Hid (w2.cell? ⟨p0,0,none⟩=some (.slice (some ⟨gk,0,none⟩) (n+1) kc)):=jA HST1.out 0 _ rfl;have HBa:Hid (w2.cell? ⟨p0,1,none⟩=some (.slice (some ⟨ga,0,none⟩) (n+1) ac)):=jA HST1.out 1 _ rfl;generalize w2=wC at *;go_wp2_with fail;refine jQ [13] (CpW wC ga 3 (.slice (some ⟨ga,0,none⟩) (n+1) ac) (n+1) (splice ((Al++[0]).map (Value.int .i64)) (i+1) ((((Al++[0]).map (Value.int .i64)).drop i).take (n - i)))) (λ_ w w'=>jC w w') ((λp (_:Nat→Value)=>(λ_ _ _=>True) p)) [[],[0],[0,1],[0,1,2],[],[4],[0,1,2,3,4,5],[],[7],[7,8],[7,8,9],[],[7,8,9,10,11],[0,1,2,3,4,5,6,7,8,9,10,11,12]] [(40,0),(41,1),(42,2),(43,3),(44,4),(45,5),(46,6),(47,7),(48,8),(49,9),(50,10),(51,11),(52,12),(53,13)]
    [IsP (jI p0),IsP (jI p0),IsP (.pointer (some ⟨p0,1,none⟩)),IsP (.slice (some ⟨ga,0,none⟩) (n+1) ac),IsP (.int .i64 i),IsP (.int .i64 (i+1)),λ_ v _=>∃(da:Option Addr) (dc:Nat),v=.slice da (n - i) dc∧(i < n→da=some ⟨ga,i+1,none⟩),IsP (jI p0),IsP (jI p0),IsP (.pointer (some ⟨p0,1,none⟩)),IsP (.slice (some ⟨ga,0,none⟩) (n+1) ac),IsP (.int .i64 i),IsP (.slice (some ⟨ga,i,none⟩) (n+1 - i) (ac - i)),λ_ _ _=>True]
    sqc zk (CpW.grew) ((jC.refl _).drew) zk zk ⟨jG,jG,jG,jG,jG,jG,KK (⟨λ_ _ _ _ _ h=>h,λ_ _ _ _ _ h=>h⟩),jG,jG,jG,jG,jG,jG,⟨λ_ _ _ _ _ h=>h,λ_ _ _ _ _ h=>h⟩,trivial⟩ rfl ?_ ?_
   ·intro y w2 hW hF;simp only[yR,IsP,Nat.reduceAdd,List.length_cons,List.length_nil] at hF hW;have h6:=hF.2.2.2.2.2.2.1;simp only[jF,Act.put,zq];simp only[hF];clear hF;obtain⟨hra3,hma3⟩:=hW;clear h6;have HMa:=zh hma3;have HST2:Hid (w2.heap[p0]? = some (xH (.slice (some ⟨gk,0,none⟩) (n+1) kc) (.slice (some ⟨ga,0,none⟩) (n+1) ac))):=hma3.heap HST1.out (λe=>HNE.2.1 e.symm);have HRk2:Hid (w2.ownsRow 0 9 1 (.slice (some ⟨gk,0,none⟩) (n+1) kc) (n+1) (splice ((Kl++[(⟨#[]⟩:ByteArray)]).map Value.string) (i+1) ((((Kl++[(⟨#[]⟩:ByteArray)]).map Value.string).drop i).take (n - i)))):=hma3.owns HRk.out (λq hq e=>by cases hq;exact HNE.2.2 e);have HRa2:=zh hra3;clear hra3 hma3 HRk HRa HBk HBa HST1;have HRk:=zh HRk2.out;have HRa:=zh HRa2.out;have HST1:=zh HST2.out;clear HRk2 HRa2 HST2;have HBk:Hid (w2.cell? ⟨p0,0,none⟩=some (.slice (some ⟨gk,0,none⟩) (n+1) kc)):=jA HST1.out 0 _ rfl;have HBa:Hid (w2.cell? ⟨p0,1,none⟩=some (.slice (some ⟨ga,0,none⟩) (n+1) ac)):=jA HST1.out 1 _ rfl;obtain⟨u1,hu1⟩:∃u,(splice ((Kl++[(⟨#[]⟩:ByteArray)]).map Value.string) (i+1) ((((Kl++[(⟨#[]⟩:ByteArray)]).map Value.string).drop i).take (n - i)))[i]? = some u:=⟨_,List.getElem?_eq_getElem (by have h:=HRk.1;omega)⟩;obtain⟨u2,hu2⟩:∃u,(splice ((Al++[0]).map (Value.int .i64)) (i+1) ((((Al++[0]).map (Value.int .i64)).drop i).take (n - i)))[i]? = some u:=⟨_,List.getElem?_eq_getElem (by have h:=HRa.1;omega)⟩;have HU:=zh (And.intro hu1 hu2);clear hu1 hu2;generalize w2=wD at *;skip;have hilt:(i:Int) < n+1:=(by omega);go_wp2_with fail;refine sqQ [13,15] (StW wD gk ga kc ac (n+1) i 9 3 (splice ((Kl++[(⟨#[]⟩:ByteArray)]).map Value.string) (i+1) ((((Kl++[(⟨#[]⟩:ByteArray)]).map Value.string).drop i).take (n - i))) (splice ((Al++[0]).map (Value.int .i64)) (i+1) ((((Al++[0]).map (Value.int .i64)).drop i).take (n - i))) (.string k) (.int .i64 a)) (λ_ w w'=>jC w w') ((λp (_:Nat→Value)=>(λ_ _ _=>True) p)) [[],[0],[0,1],[0,1,2],[],[],[5],[5,6],[5,6,7],[],[],[],[0,1,2,3,4,5,6,7,8,10],[0,1,2,3,4,5,6,7,8,10,12],[0,1,2,3,4,5,6,7,8,9,10,11,12,13],[0,1,2,3,4,5,6,7,8,9,10,11,12,13,14]] [(54,0),(55,1),(56,2),(57,3),(58,4),(59,5),(60,6),(61,7),(62,8),(63,9),(64,10),(65,11),(66,12),(67,14)]
     [IsP (jI p0),IsP (jI p0),IsP (jI p0),IsP (.slice (some ⟨gk,0,none⟩) (n+1) kc),IsP (.int .i64 i),IsP (jI p0),IsP (jI p0),IsP (.pointer (some ⟨p0,1,none⟩)),IsP (.slice (some ⟨ga,0,none⟩) (n+1) ac),IsP (.int .i64 i),IsP (.string k),IsP (.int .i64 a),IsP (.pointer (some ⟨gk,i,none⟩)),λ_ _ _=>True,IsP (.pointer (some ⟨ga,i,none⟩)),λ_ _ _=>True]
     sqe zk (StW.grew) ((jC.refl _).drew) zk zk ⟨jG,jG,jG,jG,jG,jG,jG,jG,jG,jG,jG,jG,jG,⟨λ_ _ _ _ _ h=>h,λ_ _ _ _ _ h=>h⟩,jG,⟨λ_ _ _ _ _ h=>h,λ_ _ _ _ _ h=>h⟩,trivial⟩ rfl ?_ ?_
    ·intro y w2 hW hF;simp only[yR,IsP,Nat.reduceAdd,List.length_cons,List.length_nil] at hF hW;simp only[jF,Act.put,zq];simp only[hF];clear hF;obtain⟨hrk5,hra5,hm5⟩:=hW;skip
     have HF:Hid (∃S',qK w2 p0 S' (Q2 l i (k,a))∧Y4 S S' w0 w2∧Moved S w0 w2):=by
      obtain⟨n1,n2,m1⟩:=HM1.out;obtain⟨e1,e2,e3⟩:=HNE.out;have hs1:=m1.size;have hs2:=HMk.size;have hs3:=HMa.size;have hs4:=hm5.size;have hlk:=YN hrk5 (g:=gk) rfl;have hla:=YN hra5 (g:=ga) rfl
      have hok:zG w2 0 (.slice (some ⟨gk,0,none⟩) (n+1) kc) (V2 (Q2 l i (k,a))):=by
       unfold zG;rw[E7,HLL.1,← xK Value.string Kl ⟨#[]⟩ k n i HN.1 HIN.out,aH,HN.1];exact hrk5
      have hoa:mT w2 0 (.slice (some ⟨ga,0,none⟩) (n+1) ac) (QZ (Q2 l i (k,a))):=by
       unfold mT;rw[LP,HLL.2,← xK (Value.int .i64) Al 0 a n i HN.2 HIN.out,aH,HN.2];exact hra5
      refine⟨λb=>b=p0∨b=gk∨b=ga,⟨.inl rfl,_,_,hm5.heap HST1.out (λe=>e.elim (λe=>e1 e.symm) (λe=>e2 e.symm)),hok,hoa,λg hg=>.inr (.inl (by cases hg;rfl)),λg hg=>.inr (.inr (by cases hg;rfl))⟩,λb hb=>?_,?_⟩
      ·rcases hb with rfl|rfl|rfl
       ·exact .inl HSS.1
       ·rcases n1 _ rfl with h|h
        ·exact .inl (HSS.2.1 _ h)
        exact .inr ⟨h,hlk⟩
       rcases n2 _ rfl with h|h
       ·exact .inl (HSS.2.2 _ h)
       exact .inr ⟨h,hla⟩
      have mS:Moved S w0 wB:=m1.mono (λj _ hj=>by
       rcases hj with rfl|hj|hj
       ·exact HSS.1
       ·exact HSS.2.1 _ hj
       exact HSS.2.2 _ hj)
      have hgk:gk < w0.heap.size→S gk:=λh=>(n1 gk rfl).elim (λe=>HSS.2.1 _ e) (λe=>by omega);have hga:ga < w0.heap.size→S ga:=λh=>(n2 ga rfl).elim (λe=>HSS.2.2 _ e) (λe=>by omega);exact ((mS.trans HMk.out (λj hj e=>e ▸ hgk (e ▸ hj))).trans HMa.out (λj hj e=>e ▸ hga (e ▸ hj))).trans hm5 (λj hj e=>e.elim (λe=>e ▸ hgk (e ▸ hj)) (λe=>e ▸ hga (e ▸ hj)))
     clear hrk5 hra5 hm5;go_wp2;go_end0;exact⟨rfl,HF.out⟩
    refine⟨zqd,zqd,zqd,?_⟩;constructor
    ·exact zb55
    refine⟨zqd,zqd,zqd,zqd,?_⟩;constructor
    ·exact zb56
    refine⟨zqd,zqd,zqd,zqd,?_⟩;constructor
    ·refine jZ 0 rfl ?_;intro y w2 hW hD K hK;have hr0:=yI HRk.out hW;have dd:=pZ hr0 HU.1;have ff:=p6 hr0 i;simp only[kV,zq4,zq5,IsP] at hD;generalize hAA:jF y _ _=AA at hK⊢;simp only[jF,Act.put,zq,IsP] at hAA;subst hAA;simp only[zq4,zq5,IsP] at hK;simp only[hD] at hK⊢;clear hD;refine jN ?_;go_simp;exact hK _ undef _ rfl trivial ⟨xI hr0 i (.string k),(zZ w2 gk i _).owns (yI HRa.out hW) (λq hq e=>by cases hq;exact HNE.2.2 e.symm),(Moved.of_grew hW).trans (zZ w2 gk i _) (λ_ _ h=>.inl h)⟩ trivial
    refine⟨zqd,?_⟩;constructor
    ·refine jZ 1 rfl ?_;intro y w2 hW hD K hK;have hr0:=hW.2.1;have dd:=pZ hr0 HU.2;have ff:=p6 hr0 i;simp only[kV,zq4,zq5,IsP] at hD;generalize hAA:jF y _ _=AA at hK⊢;simp only[jF,Act.put,zq,IsP] at hAA;subst hAA;simp only[zq4,zq5,IsP] at hK;simp only[hD] at hK⊢;clear hD;refine jN ?_;go_simp;exact hK _ undef _ rfl trivial ⟨(zZ w2 ga i _).owns hW.1 (λq hq e=>by cases hq;exact HNE.2.2 e),xI hr0 i (.int .i64 a),hW.2.2.trans (zZ w2 ga i _) (λ_ _ h=>.inr h)⟩ trivial
    trivial
   refine⟨zqd,zqd,zqd,?_⟩;constructor
   ·exact zb56
   refine⟨zqd,zqd,?_⟩;constructor
   ·exact zb57
   refine⟨zqd,zqd,zqd,?_⟩;constructor
   ·exact zb56
   refine⟨zqd,zqd,?_⟩;constructor
   ·refine jZ 0 rfl ?_;intro y w2 hW hD K hK;simp only[kV,zq4,zq5,IsP] at hD;have h6:=hD.2.2.2.2.2.2.1;generalize hAA:jF y _ _=AA at hK⊢;simp only[jF,Act.put,zq,IsP] at hAA;subst hAA;simp only[zq4,zq5,IsP] at hK;simp only[hD] at hK⊢;clear hD;obtain⟨da6,dc6,e6,hda6⟩:=h6;rw[e6] at hK⊢;clear e6;refine jN ?_;refine cF w2 _ _ 40 rfl 3 underlying40 SZa ga n ac ((Al++[0]).map (Value.int .i64)) (yI HRa.out hW) (by intro u hu;obtain⟨_,_,rfl⟩:=List.mem_map.1 hu;rfl) i HIN.out _ _ _ hda6 rfl rfl ?_;intro v w' ho hm;exact hK _ _ _ rfl trivial ⟨ho,(Moved.of_grew hW).trans hm (λ_ _ h=>h)⟩ trivial
   trivial
  refine⟨zqd,zqd,zqd,?_⟩;constructor
  ·exact zb55
  refine⟨zqd,zqd,?_⟩;constructor
  ·exact zb57
  refine⟨zqd,zqd,zqd,?_⟩;constructor
  ·exact zb55
  refine⟨zqd,zqd,?_⟩;constructor
  ·refine jZ 0 rfl ?_;intro y w2 hW hD K hK;simp only[kV,zq4,zq5,IsP] at hD;have h6:=hD.2.2.2.2.2.2.1;generalize hAA:jF y _ _=AA at hK⊢;simp only[jF,Act.put,zq,IsP] at hAA;subst hAA;simp only[zq4,zq5,IsP] at hK;simp only[hD] at hK⊢;clear hD;obtain⟨da6,dc6,e6,hda6⟩:=h6;rw[e6] at hK⊢;clear e6;refine jN ?_;refine cF w2 _ _ 23 rfl 9 underlying23 SZk gk n kc ((Kl++[(⟨#[]⟩:ByteArray)]).map Value.string) (yI HRk.out hW) (by intro u hu;obtain⟨_,_,rfl⟩:=List.mem_map.1 hu;rfl) i HIN.out _ _ _ hda6 rfl rfl ?_;intro v w' ho hm;exact hK _ _ _ rfl trivial ⟨ho,(Moved.of_grew hW).trans hm (λ_ _ h=>h)⟩ trivial
  trivial
 refine⟨zqd,zqd,zqd,zqd,zqd,?_⟩;constructor
 ·refine jP 0 0 ?_;intro y w2 p hlo hhi hW hD K hK;obtain rfl:p=0:=by omega
  have d0:=jC.cell hW HC.1;exact zqr
 constructor
 ·refine jP 0 0 ?_;intro y w2 p hlo hhi hW hD K hK;clear hD;generalize hAA:jF y _ _=AA at hK⊢;simp only[jF,Act.put,zq,IsP] at hAA;subst hAA;simp only[zq4,zq5,IsP] at hK;refine jN ?_;go_simp;exact hK _ _ _ rfl ((jC.refl _).alloc _) (λ_=>⟨_,rfl,HSZ p w2 hW,heap_alloc_new _ _⟩)
 constructor
 ·refine jZ 0 rfl ?_;intro y w2 hW hD K hK;simp only[kV,zq4,zq5,IsP] at hD;have h6:=hD.2.2.2.2.1;generalize hAA:jF y _ _=AA at hK⊢;simp only[jF,Act.put,zq,IsP] at hAA;subst hAA;simp only[zq4,zq5,IsP] at hK;simp only[hD] at hK⊢;clear hD;refine jN ?_;obtain⟨g6,e6,n6,hh6⟩:=h6 (Nat.le_refl _);rw[e6] at hK⊢;refine MA w2 _ _ rfl kv Kl rfl (yI HOK.out hW) g6 ⟨#[]⟩ rfl (jA hh6 0 _ rfl) (by have:=HLN.out;omega) ?_;intro v' w' ho hgr hnx;have hm:Moved (λk=>kv.ownBlock=some k) w2 w':=(Moved.of_grown hgr).mono (λj _ hj=>hj.symm);refine hK _ _ _ rfl hm ⟨?_,?_,?_⟩ ⟨by omega,λ_=>⟨ho,hnx.earlier hW.size⟩⟩
  ·exact hm.heap (hW.heap HST.out) (λe=>vL HOK.out HST.out zd e)
  ·exact hm.owns (yI HOA.out hW) (λk hk hk2=>cY HOK.out HOA.out zd hk2 hk)
  exact (Moved.of_grew hW).trans hm (λj _ hj=>.inr (.inl hj))
 refine⟨zqd,zqd,zqd,?_⟩;constructor
 ·refine jP 0 1 ?_;intro y w2 p hlo hhi hW hD K hK
  have d1:w2.cell? ⟨p0,1,none⟩=some av:=by
   rcases (show p=0∨p=1 by omega) with rfl|rfl
   ·exact jC.cell hW HC.2.1
   exact jA hW.1 1 _ rfl
  exact zqr
 constructor
 ·refine jP 0 1 ?_;intro y w2 p hlo hhi hW hD K hK;clear hD;generalize hAA:jF y _ _=AA at hK⊢;simp only[jF,Act.put,zq,IsP] at hAA;subst hAA;simp only[zq4,zq5,IsP] at hK;refine jN ?_;go_simp;exact hK _ _ _ rfl ((jC.refl _).alloc _) (λ_=>⟨_,rfl,HSZ p w2 hW,heap_alloc_new _ _⟩)
 constructor
 ·refine jZ 1 rfl ?_;intro y w2 hW hD K hK;simp only[kV,zq4,zq5,IsP] at hD;have h12:=hD.2.2.2.2.2.2.2.2.2.2.1;generalize hAA:jF y _ _=AA at hK⊢;simp only[jF,Act.put,zq,IsP] at hAA;subst hAA;simp only[zq4,zq5,IsP] at hK;simp only[hD] at hK⊢;clear hD;refine jN ?_;obtain⟨g12,e12,n12,hh12⟩:=h12 (Nat.le_refl _);rw[e12] at hK⊢;refine MB w2 _ _ rfl av Al rfl hW.2.1 g12 0 rfl (jA hh12 0 _ rfl) (by have:=HLN.out;omega) ?_;intro v' w' ho hgr hnx;have hm:Moved (λk=>av.ownBlock=some k) w2 w':=(Moved.of_grown hgr).mono (λj _ hj=>hj.symm);refine hK _ _ _ rfl ⟨hW.2.1,hm⟩ ⟨?_,?_⟩ ⟨Nat.le_refl _,λ_=>⟨ho,hnx.earlier hW.2.2.size⟩⟩
  ·exact hm.heap hW.1 (λe=>vL hW.2.1 hW.1 zd e)
  exact hW.2.2.trans hm (λj _ hj=>.inr (.inr hj))
 refine⟨zqd,zqd,?_⟩;constructor
 ·refine jZ 2 rfl ?_;intro y w2 hW hD K hK;have f0:=jE hW.1 0;have d0:=jA hW.1 0 _ rfl;simp only[kV,zq4,zq5,IsP] at hD;have h7:=hD.2.2.2.2.2.2.1;generalize hAA:jF y _ _=AA at hK⊢;simp only[jF,Act.put,zq,IsP] at hAA;subst hAA;simp only[zq4,zq5,IsP] at hK;simp only[hD] at hK⊢;clear hD;have hq7:=h7.2 zo;obtain⟨a7,c7,e7,_,_,_⟩:=jR hq7.1;replace e7:y 7=.slice a7 (Kl.length+1) c7:=by rw[e7];simp
  rw[e7] at hK hq7⊢;clear e7 h7;refine jN ?_;go_simp;have hh:(w2.setCell ⟨p0,0,none⟩ (.slice a7 (Kl.length+1) c7)).heap[p0]? = some (xH (.slice a7 (Kl.length+1) c7) av):=by have:=heap_setCell_same w2 p0 0 _ _ (.slice a7 (Kl.length+1) c7) hW.1;simpa using this
  refine hK _ undef _ rfl ⟨⟨_,_,hW.1⟩,zZ w2 p0 0 _⟩ ⟨⟨jA hh 1 _ rfl,jE hh 1⟩,_,hh,?_,hq7.2,?_⟩ trivial
  ·exact (zZ w2 p0 0 _).owns hq7.1 (λk hk e=>vL hq7.1 hW.1 zd (by rw[hk,e]))
  exact hW.2.trans (zZ w2 p0 0 _) (λj _ hj=>.inl hj)
 refine⟨zqd,zqd,?_⟩;constructor
 ·refine jZ 3 rfl ?_;intro y w2 hW hD K hK;have f1:=hW.1.2;have d1:=hW.1.1;simp only[kV,zq4,zq5,IsP] at hD;have h13:=hD.2.2.2.2.2.2.2.2.2.2.2.2.2.1;generalize hAA:jF y _ _=AA at hK⊢;simp only[jF,Act.put,zq,IsP] at hAA;subst hAA;simp only[zq4,zq5,IsP] at hK;simp only[hD] at hK⊢;clear hD;have hq13:=h13.2 zo;obtain⟨a13,c13,e13,_,_,_⟩:=jR hq13.1;replace e13:y 13=.slice a13 (Al.length+1) c13:=by rw[e13];simp
  rw[e13] at hK hq13⊢;clear e13 h13;refine jN ?_;go_simp;refine hK _ undef _ rfl ?_ ?_ trivial
  ·obtain⟨_,kv3,hW3⟩:=hW;exact⟨⟨_,_,hW3.1⟩,zZ w2 p0 1 _⟩
  obtain⟨_,kv3,hW3⟩:=hW;refine⟨kv3,_,?_,?_,hW3.2.2.1,?_,hq13.2,?_⟩
  ·have:=heap_setCell_same w2 p0 1 _ _ (.slice a13 (Al.length+1) c13) hW3.1;simpa using this
  ·exact (zZ w2 p0 1 _).owns hW3.2.1 (λk hk e=>vL hW3.2.1 hW3.1 zd (by rw[hk,e]))
  ·exact (zZ w2 p0 1 _).owns hq13.1 (λk hk e=>vL hq13.1 hW3.1 zd (by rw[hk,e]))
  exact hW3.2.2.2.trans (zZ w2 p0 1 _) (λj _ hj=>.inl hj)
 trivial
def aR (p:Nat) (S:Nat→Prop) (l:qI) (w w':World):Prop:=∃S',qK w' p S' l∧Y4 S S' w w'∧Moved S w w'
theorem aR.refl (h:qK w p S l):aR p S l w w:=⟨S,h,Y4.refl _ _ _,Moved.refl _ _⟩
theorem aR.grew {w':World} (h:qK w p S l) (hg:jC w w'):aR p S l w w':=⟨S,h.grew hg,Y4.refl _ _ _,Moved.of_grew hg⟩
theorem mW (k:ByteArray) (a:Int) (h:qK w p S l) (hl:l.length≤1048577) :
 Calls prog 187 #[jI p,.string k,.int .i64 a] w λr w'=>r=.returned (.int .i64 (ZC k a l))∧aR p S (qD k a l) w w':=by
 have HB:=zh h;clear h;by_cases h0:a < 0
 ·have HE:Hid (ZC k a l=2∧qD k a l=l):=by show _∧_;unfold ZC qD;rw[if_pos (.inl h0),if_pos (.inl h0)];exact⟨rfl,rfl⟩
  rw[HE.1,HE.2];go_enter func187,ntmps187;go_wp2_with fail;refine (Q6 HB.out).mono ?_;rintro r w' ⟨rfl,rfl⟩;go_wp2;go_ret;exact⟨rfl,aR.refl HB.out⟩
 by_cases h1:9007199254740991 < a
 ·have HE:Hid (ZC k a l=2∧qD k a l=l):=by show _∧_;unfold ZC qD;rw[if_pos (.inr h1),if_pos (.inr h1)];exact⟨rfl,rfl⟩
  rw[HE.1,HE.2];go_enter func187,ntmps187;go_wp2_with fail;refine (Q6 HB.out).mono ?_;rintro r w' ⟨rfl,rfl⟩;go_wp2;go_ret;exact⟨rfl,aR.refl HB.out⟩
 have hn:¬(a < 0∨9007199254740991 < a):=λh=>h.elim h0 h1
 cases hp:sT l k with
 | true=>
  have HE:Hid (ZC k a l=71∧qD k a l=l):=(by show _∧_;unfold ZC qD;rw[if_neg hn,if_neg hn,hp];exact⟨rfl,rfl⟩);have HP:=zh hp;rw[HE.1,HE.2];clear hp hn;go_enter func187,ntmps187;go_wp2_with fail;refine (Q6 HB.out).mono ?_;rintro r w' ⟨rfl,rfl⟩;go_wp2_with fail;refine (fT k HB.out).mono ?_;rw[HP];rintro r w2 ⟨rfl,hg⟩;have HG:=zh hg;clear hg;go_wp2;go_ret;exact⟨rfl,aR.grew HB.out HG.out⟩
 | false=>
  have HE:Hid (ZC k a l=0∧qD k a l=Q2 l (vQ l k) (k,a)):=(by show _∧_;unfold ZC qD;rw[if_neg hn,if_neg hn,hp];exact⟨rfl,rfl⟩);have HP:=zh hp;have HL:=zh (E8 l k);rw[HE.1,HE.2];have HPA:=zh (fT k HB.out);rw[HP] at HPA;clear hp hn HP HE;generalize vQ l k=i at *;go_enter func187,ntmps187;go_wp2_with fail;refine (Q6 HB.out).mono ?_;rintro r w' ⟨rfl,rfl⟩;go_wp2_with fail;refine HPA.mono ?_;rintro r w2 ⟨rfl,hg⟩;have HG:=zh hg;clear hg;go_wp2_with fail;refine (lay_any i k a (HB.grew HG.out) HL.out hl).mono ?_;rintro r w3 ⟨rfl,ht⟩;have HT:=zh ht;clear ht;go_wp2;go_ret;obtain⟨S',k1,k2,k3⟩:=HT.out;exact⟨rfl,S',k1,λb hb=>(k2 b hb).imp id (λh=>⟨Nat.le_trans HG.size h.1,h.2⟩),(Moved.of_grew (S:=S) HG.out).trans' k3⟩
def fU (w:World) (p:Nat) (S:Nat→Prop) (jB:Int) (s:St):Prop:=S p∧∃o,yA 0 w p o s.1 jB s.2∧∀k,o=some k→S k
def KT (l:List (Int × ByteArray)):List (Int × Value):=l.map λq=>(q.1,.string q.2)
def VQ (w:World) (r:Nat) (S:Nat→Prop) (l:List (Int × ByteArray)):Prop:=S r∧oB w r (KT l)
section
variable {w w':World} {p r:Nat} {S S' T:Nat→Prop} {jB:Int} {s s':St} {l:List (Int × ByteArray)}
theorem fU.kept (h:fU w p S jB s) (hm:Moved T w w') (hd:∀k,S k→¬T k):fU w' p S jB s:=by
 obtain⟨h0,o,h1,h2⟩:=h;exact⟨h0,o,h1.kept hm (hd _ h0) (λk hk=>hd k (h2 k hk)),h2⟩
theorem fU.mono (h:fU w p S jB s) (hs:∀k,k < w.heap.size→S k→S' k):fU w p S' jB s:=by
 obtain⟨h0,o,h1,h2⟩:=h;exact⟨hs _ (h1.lt _ (.inl rfl)) h0,o,h1,λk hk=>hs k (h1.lt _ (.inr hk.symm)) (h2 k hk)⟩
theorem fU.turn {o:Option Nat} (h0:S p) (h1:yA 0 w p o s.1 jB s.2) (h2:∀k,o=some k→S k) (ht:kO 0 w w' p o jB s'):∃S',fU w' p S' jB s'∧Y4 S S' w w'∧Moved S w w':=by
 obtain⟨o',k1,k2,k3⟩:=ht;refine⟨KL p o',⟨.inl rfl,o',k1,λk hk=>.inr hk.symm⟩,λk hk=>?_,k3.mono (λj _ hj=>hj.elim (λe=>e ▸ h0) (λe=>h2 j e.symm))⟩;rcases hk with rfl|hk
 ·exact .inl h0
 rcases k2 k hk.symm with e|e
 ·exact .inl (h2 k e)
 exact .inr ⟨e,k1.lt k (.inr hk)⟩
theorem VQ.kept (h:VQ w r S l) (hm:Moved T w w') (hd:∀k,S k→¬T k):VQ w' r S l:=⟨h.1,hm.heap h.2 (hd _ h.1)⟩
theorem VQ.mono (h:VQ w r S l) (hs:∀k,k < w.heap.size→S k→S' k):VQ w r S' l:=⟨hs _ (Array.getElem?_eq_some_iff.1 h.2).1 h.1,h.2⟩
end
structure zR where
 p:Nat
 b:Nat
 s:Nat
 k:Nat
 t:Nat
 l:Nat
 m:Nat
abbrev eM (q:zR) (jD:Int) (vv:Value) (e:Int):Obj:=.cells #[jI q.b,jI q.s,.int .i64 e,.int .i64 jD,jI q.k,jI q.t,jI q.l,.map (some q.m),vv,.bool true] 113 (0,0)
structure BS.Ok (jB:Int) (x:BS):Prop where
 m0:0≤jB
 m1:jB≤1048576
 len:(x.s.1.length:Int)≤jB
 stk:x.stk.length≤65536
 okS:∀v∈x.stk,okV v
 keys:x.keys.length≤1048577
 texts:x.texts.length≤1048577
 lists:x.lists.length≤1048577
 vals:x.vals.length≤1048577
 okL:∀v∈x.vals,okV v
 okK:∀z∈x.keys,0≤z.2∧z.2≤9007199254740991
 okT:∀z∈x.texts,0≤z.2∧z.2≤9007199254740991
def aS (w:World) (q:zR) (jD:Int) (S:Nat→Prop) (e:Int) (vals:List V3):Prop:=S q.p∧∃vv,w.heap[q.p]? = some (eM q jD vv e)∧jU w 0 vv vals∧∀g,vv.ownBlock=some g→S g
structure Bd (B:Nat) (q:zR) (jB jD:Int) (κ:Nat→Nat) (x:BS) (w:World):Prop where
 lt:∀k,κ k≠0→B≤k∧k < w.heap.size
 ok:x.Ok jB
 self:aS w q jD (λk=>κ k=1) x.e x.vals
 buf:fU w q.b (λk=>κ k=2) jB x.s
 stk:ZF w q.s (λk=>κ k=3) x.stk
 keys:qK w q.k (λk=>κ k=4) x.keys
 texts:qK w q.t (λk=>κ k=5) x.texts
 lists:qK w q.l (λk=>κ k=6) x.lists
 names:VQ w q.m (λk=>κ k=7) x.names
def Tn (κ κ':Nat→Nat) (w w':World):Prop:=Moved (λk=>κ k≠0) w w'∧∀k,k < w.heap.size→κ' k=κ k
def kL (B:Nat) (q:zR) (jB jD:Int) (κ:Nat→Nat) (x:BS) (w w':World):Prop:=∃κ',Bd B q jB jD κ' x w'∧Tn κ κ' w w'
section
variable {B:Nat} {q:zR} {jB jD:Int} {κ κ':Nat→Nat} {x x':BS} {w w' w2:World}
theorem aS.kept {S T:Nat→Prop} {e:Int} {vals:List V3} (h:aS w q jD S e vals) (hm:Moved T w w') (hd:∀k,S k→¬T k):aS w' q jD S e vals:=by
 obtain⟨h0,vv,h1,h2,h3⟩:=h;exact⟨h0,vv,hm.heap h1 (hd _ h0),hm.owns h2 (λk hk=>hd k (h3 k hk)),h3⟩
theorem aS.mono {S S':Nat→Prop} {e:Int} {vals:List V3} (h:aS w q jD S e vals) (hs:∀k,k < w.heap.size→S k→S' k):aS w q jD S' e vals:=by
 obtain⟨h0,vv,h1,h2,h3⟩:=h;exact⟨hs _ (Array.getElem?_eq_some_iff.1 h1).1 h0,vv,h1,h2,λg hg=>hs g (YN h2 hg) (h3 g hg)⟩
theorem Tn.refl (κ:Nat→Nat) (w:World):Tn κ κ w w:=⟨Moved.refl _ _,λ_ _=>rfl⟩
theorem Bd.grew (h:Bd B q jB jD κ x w) (hg:jC w w'):Bd B q jB jD κ x w':=
 have hm:Moved (λ_=>False) w w':=Moved.of_grew hg
 ⟨λk hk=>⟨(h.lt k hk).1,Nat.lt_of_lt_of_le (h.lt k hk).2 hg.size⟩,h.ok,h.self.kept hm (λ_ _ h=>h),h.buf.kept hm (λ_ _ h=>h),h.stk.kept hm (λ_ _ h=>h),h.keys.kept hm (λ_ _ h=>h),h.texts.kept hm (λ_ _ h=>h),h.lists.kept hm (λ_ _ h=>h),h.names.kept hm (λ_ _ h=>h)⟩
theorem Bd.refl (h:Bd B q jB jD κ x w):kL B q jB jD κ x w w:=⟨κ,h,Tn.refl _ _⟩
theorem Tn.trans {κ'':Nat→Nat} (h:Tn κ κ' w w') (k:Tn κ' κ'' w' w2):Tn κ κ'' w w2:=
 ⟨h.1.trans k.1 (λj hj hk=>by rwa [h.2 j hj] at hk),λj hj=>(k.2 j (Nat.lt_of_lt_of_le hj h.1.size)).trans (h.2 j hj)⟩
theorem Tn.of_grew (hg:jC w w'):Tn κ κ w w':=⟨Moved.of_grew hg,λ_ _=>rfl⟩
theorem kL.after (hg:jC w w') (h:kL B q jB jD κ x w' w2):kL B q jB jD κ x w w2:=by
 obtain⟨κ1,h1,h2⟩:=h;exact⟨κ1,h1,(Tn.of_grew hg).trans h2⟩
def QD (κ:Nat→Nat) (c:Nat) (w w':World) (k:Nat):Nat:=if k < w.heap.size then κ k else if k < w'.heap.size then c else 0
theorem p7 {c k:Nat} (h:k < w.heap.size):QD κ c w w' k=κ k:=if_pos h
theorem Y6 (h:∀k,κ k≠0→B≤k∧k < w.heap.size) (hB:B≤w.heap.size) (hs:w.heap.size≤w'.heap.size) {c:Nat}:∀k,QD κ c w w' k≠0→B≤k∧k < w'.heap.size:=by
 intro k hk;unfold QD at hk;split at hk
 ·have:=h k hk;exact⟨this.1,by omega⟩
 split at hk
 ·exact⟨by omega,by assumption⟩
 exact absurd rfl hk
theorem jV {c d:Nat} (hd:d≠0) (h:∀k,κ k≠0→B≤k∧k < w.heap.size) (k:Nat) (hk:κ k=d):QD κ c w w' k=d:=by
 rw[p7 (h k (by rw[hk];exact hd)).2];exact hk
theorem YS {c:Nat} {S':Nat→Prop} (hc:c≠0) (h:∀k,κ k≠0→B≤k∧k < w.heap.size) (hn:Y4 (λk=>κ k=c) S' w w') (k:Nat) (hk:S' k):QD κ c w w' k=c:=by
 rcases hn k hk with e|⟨e1,e2⟩
 ·exact jV hc h k e
 unfold QD;rw[if_neg zo,if_pos e2]
theorem VR {c:Nat} (hc:c≠0) (hm:Moved (λk=>κ k=c) w w'):Tn κ (QD κ c w w') w w':=⟨hm.mono (λj _ hj=>by show κ j≠0;rw[hj];exact hc),λk hk=>p7 hk⟩
theorem Bd.size (h:Bd B q jB jD κ x w):B≤w.heap.size:=by
 have:=h.lt q.p (by rw[h.self.1];decide);omega
end
section
variable {B:Nat} {q:zR} {jB jD:Int} {κ κ' κ0:Nat→Nat} {x x' y:BS} {w w' w2 w0:World}
theorem jW {c d:Nat} (hcd:d≠c):∀k,κ k=d→¬κ k=c:=λk h e=>hcd (h.symm.trans e)
section steps
variable (h:Bd B q jB jD κ x w)
include h
theorem Bd.buf_step {S':Nat→Prop} {s':St} (hl:(s'.1.length:Int)≤jB) (h1:fU w' q.b S' jB s') (h2:Y4 (λk=>κ k=2) S' w w') (h3:Moved (λk=>κ k=2) w w'):kL B q jB jD κ {x with s:=s'} w w':=
 ⟨QD κ 2 w w',⟨Y6 h.lt h.size h3.size,⟨h.ok.m0,h.ok.m1,hl,h.ok.stk,h.ok.okS,h.ok.keys,h.ok.texts,h.ok.lists,h.ok.vals,h.ok.okL,h.ok.okK,h.ok.okT⟩,
  (h.self.kept h3 (jW zd)).mono (λk _=>jV zd h.lt k),h1.mono (λk _=>YS zd h.lt h2 k),(h.stk.kept h3 (jW zd)).mono (λk _=>jV zd h.lt k),
  (h.keys.kept h3 (jW zd)).mono (λk _=>jV zd h.lt k),(h.texts.kept h3 (jW zd)).mono (λk _=>jV zd h.lt k),(h.lists.kept h3 (jW zd)).mono (λk _=>jV zd h.lt k),(h.names.kept h3 (jW zd)).mono (λk _=>jV zd h.lt k)⟩,VR zd h3⟩
theorem Bd.stk_step {l':List V3} (hl:l'.length≤65536) (ho:∀v∈l',okV v) (ht:hZ q.s (λk=>κ k=3) l' w w'):kL B q jB jD κ {x with stk:=l'} w w':=by
 obtain⟨S',h1,h2,h3⟩:=ht
 exact⟨QD κ 3 w w',⟨Y6 h.lt h.size h3.size,⟨h.ok.m0,h.ok.m1,h.ok.len,hl,ho,h.ok.keys,h.ok.texts,h.ok.lists,h.ok.vals,h.ok.okL,h.ok.okK,h.ok.okT⟩,
  (h.self.kept h3 (jW zd)).mono (λk _=>jV zd h.lt k),(h.buf.kept h3 (jW zd)).mono (λk _=>jV zd h.lt k),h1.mono (λk _=>YS zd h.lt h2 k),
  (h.keys.kept h3 (jW zd)).mono (λk _=>jV zd h.lt k),(h.texts.kept h3 (jW zd)).mono (λk _=>jV zd h.lt k),(h.lists.kept h3 (jW zd)).mono (λk _=>jV zd h.lt k),(h.names.kept h3 (jW zd)).mono (λk _=>jV zd h.lt k)⟩,VR zd h3⟩
theorem Bd.keys_step {l':qI} (hl:l'.length≤1048577) (hk:∀z∈l',0≤z.2∧z.2≤9007199254740991) (ht:aR q.k (λk=>κ k=4) l' w w'):kL B q jB jD κ {x with keys:=l'} w w':=by
 obtain⟨S',h1,h2,h3⟩:=ht
 exact⟨QD κ 4 w w',⟨Y6 h.lt h.size h3.size,⟨h.ok.m0,h.ok.m1,h.ok.len,h.ok.stk,h.ok.okS,hl,h.ok.texts,h.ok.lists,h.ok.vals,h.ok.okL,hk,h.ok.okT⟩,
  (h.self.kept h3 (jW zd)).mono (λk _=>jV zd h.lt k),(h.buf.kept h3 (jW zd)).mono (λk _=>jV zd h.lt k),(h.stk.kept h3 (jW zd)).mono (λk _=>jV zd h.lt k),
  h1.mono (λk _=>YS zd h.lt h2 k),(h.texts.kept h3 (jW zd)).mono (λk _=>jV zd h.lt k),(h.lists.kept h3 (jW zd)).mono (λk _=>jV zd h.lt k),(h.names.kept h3 (jW zd)).mono (λk _=>jV zd h.lt k)⟩,VR zd h3⟩
theorem Bd.texts_step {l':qI} (hl:l'.length≤1048577) (hk:∀z∈l',0≤z.2∧z.2≤9007199254740991) (ht:aR q.t (λk=>κ k=5) l' w w'):kL B q jB jD κ {x with texts:=l'} w w':=by
 obtain⟨S',h1,h2,h3⟩:=ht
 exact⟨QD κ 5 w w',⟨Y6 h.lt h.size h3.size,⟨h.ok.m0,h.ok.m1,h.ok.len,h.ok.stk,h.ok.okS,h.ok.keys,hl,h.ok.lists,h.ok.vals,h.ok.okL,h.ok.okK,hk⟩,
  (h.self.kept h3 (jW zd)).mono (λk _=>jV zd h.lt k),(h.buf.kept h3 (jW zd)).mono (λk _=>jV zd h.lt k),(h.stk.kept h3 (jW zd)).mono (λk _=>jV zd h.lt k),
  (h.keys.kept h3 (jW zd)).mono (λk _=>jV zd h.lt k),h1.mono (λk _=>YS zd h.lt h2 k),(h.lists.kept h3 (jW zd)).mono (λk _=>jV zd h.lt k),(h.names.kept h3 (jW zd)).mono (λk _=>jV zd h.lt k)⟩,VR zd h3⟩
theorem Bd.lists_step {l':qI} (hl:l'.length≤1048577) (ht:aR q.l (λk=>κ k=6) l' w w'):kL B q jB jD κ {x with lists:=l'} w w':=by
 obtain⟨S',h1,h2,h3⟩:=ht
 exact⟨QD κ 6 w w',⟨Y6 h.lt h.size h3.size,⟨h.ok.m0,h.ok.m1,h.ok.len,h.ok.stk,h.ok.okS,h.ok.keys,h.ok.texts,hl,h.ok.vals,h.ok.okL,h.ok.okK,h.ok.okT⟩,
  (h.self.kept h3 (jW zd)).mono (λk _=>jV zd h.lt k),(h.buf.kept h3 (jW zd)).mono (λk _=>jV zd h.lt k),(h.stk.kept h3 (jW zd)).mono (λk _=>jV zd h.lt k),
  (h.keys.kept h3 (jW zd)).mono (λk _=>jV zd h.lt k),(h.texts.kept h3 (jW zd)).mono (λk _=>jV zd h.lt k),h1.mono (λk _=>YS zd h.lt h2 k),(h.names.kept h3 (jW zd)).mono (λk _=>jV zd h.lt k)⟩,VR zd h3⟩
theorem Bd.names_step {l':List (Int × ByteArray)} (h1:oB w' q.m (KT l')) (h3:Moved (λk=>k=q.m) w w'):kL B q jB jD κ {x with names:=l'} w w':=by
 have hm:κ q.m=7:=h.names.1;have hM:Moved (λk=>κ k=7) w w':=h3.mono (λj _ hj=>by show κ j=7;rw[hj];exact hm)
 exact⟨QD κ 7 w w',⟨Y6 h.lt h.size h3.size,⟨h.ok.m0,h.ok.m1,h.ok.len,h.ok.stk,h.ok.okS,h.ok.keys,h.ok.texts,h.ok.lists,h.ok.vals,h.ok.okL,h.ok.okK,h.ok.okT⟩,
  (h.self.kept hM (jW zd)).mono (λk _=>jV zd h.lt k),(h.buf.kept hM (jW zd)).mono (λk _=>jV zd h.lt k),(h.stk.kept hM (jW zd)).mono (λk _=>jV zd h.lt k),
  (h.keys.kept hM (jW zd)).mono (λk _=>jV zd h.lt k),(h.texts.kept hM (jW zd)).mono (λk _=>jV zd h.lt k),(h.lists.kept hM (jW zd)).mono (λk _=>jV zd h.lt k),⟨jV zd h.lt _ hm,h1⟩⟩,VR zd hM⟩
theorem Bd.self_step {S':Nat→Prop} {e':Int} {vals':List V3} (hv:vals'.length≤1048577) (ho:∀v∈vals',okV v) (h1:aS w' q jD S' e' vals') (h2:Y4 (λk=>κ k=1) S' w w') (h3:Moved (λk=>κ k=1) w w'):kL B q jB jD κ {x with e:=e',vals:=vals'} w w':=
 ⟨QD κ 1 w w',⟨Y6 h.lt h.size h3.size,⟨h.ok.m0,h.ok.m1,h.ok.len,h.ok.stk,h.ok.okS,h.ok.keys,h.ok.texts,h.ok.lists,hv,ho,h.ok.okK,h.ok.okT⟩,
  h1.mono (λk _=>YS zd h.lt h2 k),(h.buf.kept h3 (jW zd)).mono (λk _=>jV zd h.lt k),(h.stk.kept h3 (jW zd)).mono (λk _=>jV zd h.lt k),
  (h.keys.kept h3 (jW zd)).mono (λk _=>jV zd h.lt k),(h.texts.kept h3 (jW zd)).mono (λk _=>jV zd h.lt k),(h.lists.kept h3 (jW zd)).mono (λk _=>jV zd h.lt k),(h.names.kept h3 (jW zd)).mono (λk _=>jV zd h.lt k)⟩,VR zd h3⟩
theorem Bd.row:∃vv,w.heap[q.p]? = some (eM q jD vv x.e):=by obtain⟨_,vv,h1,_⟩:=h.self;exact⟨vv,h1⟩
theorem Bd.setE (e':Int):kL B q jB jD κ {x with e:=e'} w (w.setCell ⟨q.p,2,none⟩ (.int .i64 e')):=by
 obtain⟨h0,vv,h1,h2,h3⟩:=h.self;have hm:Moved (λk=>k=q.p) w (w.setCell ⟨q.p,2,none⟩ (.int .i64 e')):=zZ w q.p 2 _;refine h.self_step (S':=λk=>κ k=1) h.ok.vals h.ok.okL ⟨h0,vv,?_,hm.owns h2 (λk hk e=>vL h2 h1 zd (by rw[hk,e])),h3⟩ (Y4.refl _ _ _) (hm.mono (λj _ hj=>by show κ j=1;rw[hj];exact h0));have:=heap_setCell_same w q.p 2 _ _ (.int .i64 e') h1;simpa using this
theorem Bd.buf_calls {f:Nat} {args:Array Value} {R:Ending→Prop} {s':St} (hl:(s'.1.length:Int)≤jB)
 (hc:∀o,yA 0 w q.b o x.s.1 jB x.s.2→(∀k,KL q.b o k→κ k=2)→Calls prog f args w λr w'=>R r∧kO 0 w w' q.b o jB s') :
 Calls prog f args w λr w'=>R r∧kL B q jB jD κ {x with s:=s'} w w':=by
 obtain⟨h0,o,h1,h2⟩:=h.buf;refine (hc o h1 (λk hk=>hk.elim (λe=>e ▸ h0) (λe=>h2 k e.symm))).mono λr w' hr=>⟨hr.1,?_⟩;obtain⟨S',k1,k2,k3⟩:=fU.turn (S:=λk=>κ k=2) h0 h1 h2 hr.2;exact h.buf_step hl k1 k2 k3
end steps
def Env (B:Nat) (q:zR) (jB jD:Int) (w0:World) (κ0:Nat→Nat) (Kp:List (Nat × Obj)) (x:BS) (w:World):Prop:=
 ∃κ,Bd B q jB jD κ x w∧Tn κ0 κ w0 w∧∀z∈Kp,w.heap[z.1]? = some z.2∧κ z.1=0
variable {Kp:List (Nat × Obj)}
theorem Env.start (h:Bd B q jB jD κ x w):Env B q jB jD w κ [] x w:=⟨κ,h,Tn.refl _ _,by simp⟩
theorem Env.turn (h:Env B q jB jD w0 κ0 Kp x w):kL B q jB jD κ0 x w0 w:=by obtain⟨κ,h1,h2,_⟩:=h;exact⟨κ,h1,h2⟩
theorem Env.grew (h:Env B q jB jD w0 κ0 Kp x w) (hg:jC w w'):Env B q jB jD w0 κ0 Kp x w':=by
 obtain⟨κ,h1,h2,h3⟩:=h;exact⟨κ,h1.grew hg,h2.trans (Tn.of_grew hg),λz hz=>⟨hg.heap (h3 z hz).1,(h3 z hz).2⟩⟩
theorem Env.add (h:Env B q jB jD w0 κ0 Kp x w) (o:Obj):Env B q jB jD w0 κ0 ((w.heap.size,o)::Kp) x (w.alloc o):=by
 obtain⟨κ,h1,h2,h3⟩:=h;have hg:=(jC.refl w).alloc o;refine⟨κ,h1.grew hg,h2.trans (Tn.of_grew hg),λz hz=>?_⟩;rcases List.mem_cons.1 hz with rfl|hz
 ·exact⟨heap_alloc_new w o,Decidable.byContradiction λhk=>by have:=(h1.lt _ hk).2;omega⟩
 exact⟨hg.heap (h3 z hz).1,(h3 z hz).2⟩
theorem Env.kp (h:Env B q jB jD w0 κ0 Kp x w) {n:Nat} {o:Obj} (hm:(n,o)∈Kp):w.heap[n]? = some o:=by obtain⟨κ,_,_,h3⟩:=h;exact (h3 _ hm).1
theorem Env.row (h:Env B q jB jD w0 κ0 Kp x w):∃vv,w.heap[q.p]? = some (eM q jD vv x.e):=by obtain⟨κ,h1,_⟩:=h;exact h1.row
theorem Env.size (h:Env B q jB jD w0 κ0 Kp x w):w0.heap.size≤w.heap.size:=by obtain⟨κ,_,h2,_⟩:=h;exact h2.1.size
theorem Env.after (h:Env B q jB jD w0 κ0 Kp x w) (ht:∀κ,Bd B q jB jD κ x w→(∀z∈Kp,κ z.1=0)→kL B q jB jD κ y w w'):Env B q jB jD w0 κ0 Kp y w':=by
 obtain⟨κ,h1,h2,h3⟩:=h;obtain⟨κ1,k1,k2⟩:=ht κ h1 (λz hz=>(h3 z hz).2);exact⟨κ1,k1,h2.trans k2,λz hz=>⟨k2.1.heap (h3 z hz).1 (λe=>e (h3 z hz).2),(k2.2 z.1 (Array.getElem?_eq_some_iff.1 (h3 z hz).1).1).trans (h3 z hz).2⟩⟩
theorem Env.callw {f:Nat} {args:Array Value} {R:Ending→Prop} {w1:World} (h:Env B q jB jD w0 κ0 Kp x w) (hc:∀κ,Bd B q jB jD κ x w→(∀z∈Kp,κ z.1=0)→Calls prog f args w1 λr w'=>R r∧kL B q jB jD κ y w w') :
 Calls prog f args w1 λr w'=>R r∧Env B q jB jD w0 κ0 Kp y w':=by
 obtain⟨κ,h1,h2,h3⟩:=h;refine (hc κ h1 (λz hz=>(h3 z hz).2)).mono λr w' hr=>⟨hr.1,?_⟩;obtain⟨κ1,k1,k2⟩:=hr.2;exact⟨κ1,k1,h2.trans k2,λz hz=>⟨k2.1.heap (h3 z hz).1 (λe=>e (h3 z hz).2),(k2.2 z.1 (Array.getElem?_eq_some_iff.1 (h3 z hz).1).1).trans (h3 z hz).2⟩⟩
theorem Env.call {f:Nat} {args:Array Value} {R:Ending→Prop} (h:Env B q jB jD w0 κ0 Kp x w) (hc:∀κ,Bd B q jB jD κ x w→(∀z∈Kp,κ z.1=0)→Calls prog f args w λr w'=>R r∧kL B q jB jD κ y w w') :
 Calls prog f args w λr w'=>R r∧Env B q jB jD w0 κ0 Kp y w':=by
 have h':=h;obtain⟨κ,h1,h2,h3⟩:=h;refine (hc κ h1 (λz hz=>(h3 z hz).2)).mono λr w' hr=>⟨hr.1,?_⟩;obtain⟨κ1,k1,k2⟩:=hr.2;exact⟨κ1,k1,h2.trans k2,λz hz=>⟨k2.1.heap (h3 z hz).1 (λe=>e (h3 z hz).2),(k2.2 z.1 (Array.getElem?_eq_some_iff.1 (h3 z hz).1).1).trans (h3 z hz).2⟩⟩
end
theorem Env.told {q:zR} {x:BS} {w2 w3:World} {Kp:List (Nat × Obj)} {N:Nat} {o:Obj} (h:Env B q jB jD w κ Kp x w2) (hN:(N,o)∈Kp) (hw:w.heap.size≤N) (hm:Moved (λk=>k=N) w2 w3):kL B q jB jD κ x w w3:=by
 obtain⟨κ1,h1,h2,h3⟩:=h;have hz:=(h3 _ hN).2;have hd:∀c,c≠0→∀k,κ1 k=c→¬k=N:=λc hc k hk e=>hc (by rw[← hk,e];exact hz)
 exact⟨κ1,⟨λk hk=>⟨(h1.lt k hk).1,Nat.lt_of_lt_of_le (h1.lt k hk).2 hm.size⟩,h1.ok,h1.self.kept hm (hd 1 zd),h1.buf.kept hm (hd 2 zd),h1.stk.kept hm (hd 3 zd),h1.keys.kept hm (hd 4 zd),h1.texts.kept hm (hd 5 zd),h1.lists.kept hm (hd 6 zd),h1.names.kept hm (hd 7 zd)⟩,
  h2.1.trans hm (λj hj e=>by omega),h2.2⟩
theorem fV {q:zR} {x:BS} (h:Bd B q jB jD κ x w):Calls prog 94 #[jI q.p] w λr w'=>r=.returned (.bool false)∧w'=w:=by
 obtain⟨vv,h1⟩:=h.row;have c9:=jA h1 9 _ rfl;clear h1;go_enter func94,ntmps94;go_wp2;go_ret;exact⟨rfl,rfl⟩
theorem MC {q:zR} {x:BS} (h:Bd B q jB jD κ x w):Calls prog 183 #[jI q.p] w λr w'=>r=.returned (.int .i64 x.e)∧w'=w:=by
 have HB:=zh h;obtain⟨vv,h1⟩:=h.row;have c2:=jA h1 2 _ rfl;clear h1;go_enter func183,ntmps183;go_wp2_with fail;refine (fV HB.out).mono ?_;rintro r w' ⟨rfl,rfl⟩;go_wp2;go_ret;exact⟨rfl,rfl⟩
theorem xL {q:zR} {x:BS} (h:Bd B q jB jD κ x w):Calls prog 133 #[jI q.p] w λr w'=>r=.returned (.int .i64 x.stk.length)∧w'=w:=by
 have HB:=zh h;obtain⟨vv,h1⟩:=h.row;have c1:=jA h1 1 _ rfl;clear h1;go_enter func133,ntmps133;go_wp2_with fail;refine (fV HB.out).mono ?_;rintro r w' ⟨rfl,rfl⟩;go_wp2_with fail;refine (xB HB.stk).mono ?_;rintro r w2 ⟨rfl,rfl⟩;go_wp2;go_ret;exact⟨rfl,rfl⟩
theorem on_any {q:zR} {x:BS} (flag:Int) (h:Bd B q jB jD κ x w):Calls prog 186 #[.pointer (some ⟨q.p,3,none⟩),.int .i64 flag] w λr w'=>r=.returned (.bool (onF jD flag))∧w'=w:=by
 obtain⟨vv,h1⟩:=h.row;have c3:=jA h1 3 _ rfl;clear h1;go_enter func186,ntmps186;go_wp2;go_ret;exact⟨rfl,rfl⟩
theorem yN {q:zR} {x:BS} (e:Int) (h:Bd B q jB jD κ x w):Calls prog 96 #[jI q.p,.int .i64 e] w λr w'=>r=.returned (.tuple #[])∧kL B q jB jD κ (x.fail e) w w':=by
 have HB:=zh h;have HS:=zh (h.setE e);obtain⟨vv,h1⟩:=h.row;have c2:=jA h1 2 _ rfl;have f2:=jE h1 2;clear h1;by_cases he:x.e=0
 ·have HX:Hid (x.fail e={x with e:=e}):=by show _=_;unfold BS.fail zO;rw[if_pos he]
  rw[he] at c2;clear he;go_enter func96,ntmps96;go_wp2;go_end0;exact⟨rfl,by rw[HX];exact HS.out⟩
 have HX:Hid (x.fail e=x):=by show _=_;unfold BS.fail zO;rw[if_neg he]
 generalize hex:x.e=ex at *;go_enter func96,ntmps96;go_wp2;go_end0;exact⟨rfl,by rw[HX];exact HB.refl⟩
section
variable {B:Nat} {q:zR} {jB jD:Int} {κ κ' κ0:Nat→Nat} {x x' y:BS} {w w' w2 w0:World} {Kp:List (Nat × Obj)}
theorem Env.at0 (h:Env B q jB jD w0 κ0 Kp x w):w.cell? ⟨q.p,0,none⟩=some (jI q.b):=by obtain⟨vv,h1⟩:=h.row;exact jA h1 0 _ rfl
theorem Env.at1 (h:Env B q jB jD w0 κ0 Kp x w):w.cell? ⟨q.p,1,none⟩=some (jI q.s):=by obtain⟨vv,h1⟩:=h.row;exact jA h1 1 _ rfl
theorem Bd.at1 (h:Bd B q jB jD κ x w):w.cell? ⟨q.p,1,none⟩=some (jI q.s):=by obtain⟨vv,h1⟩:=h.row;exact jA h1 1 _ rfl
theorem Env.at2 (h:Env B q jB jD w0 κ0 Kp x w):w.cell? ⟨q.p,2,none⟩=some (.int .i64 x.e):=by obtain⟨vv,h1⟩:=h.row;exact jA h1 2 _ rfl
theorem Env.at4 (h:Env B q jB jD w0 κ0 Kp x w):w.cell? ⟨q.p,4,none⟩=some (jI q.k):=by obtain⟨vv,h1⟩:=h.row;exact jA h1 4 _ rfl
theorem Env.at5 (h:Env B q jB jD w0 κ0 Kp x w):w.cell? ⟨q.p,5,none⟩=some (jI q.t):=by obtain⟨vv,h1⟩:=h.row;exact jA h1 5 _ rfl
theorem Env.at6 (h:Env B q jB jD w0 κ0 Kp x w):w.cell? ⟨q.p,6,none⟩=some (jI q.l):=by obtain⟨vv,h1⟩:=h.row;exact jA h1 6 _ rfl
theorem Env.at7 (h:Env B q jB jD w0 κ0 Kp x w):w.cell? ⟨q.p,7,none⟩=some (.map (some q.m)):=by obtain⟨vv,h1⟩:=h.row;exact jA h1 7 _ rfl
theorem Bd.at7 (h:Bd B q jB jD κ x w):w.cell? ⟨q.p,7,none⟩=some (.map (some q.m)):=by obtain⟨vv,h1⟩:=h.row;exact jA h1 7 _ rfl
theorem Env.cell (h:Env B q jB jD w0 κ0 Kp x w) {n:Nat} {cs:Array Value} {t:TypeId} (hm:(n,Obj.cells cs t (0,0))∈Kp) (k:Nat) (v:Value) (hv:cs[k]? = some v):w.cell? ⟨n,k,none⟩=some v:=jA (h.kp hm) k v hv
def vR (B:Nat) (q:zR) (jB jD:Int) (w0:World) (κ0:Nat→Nat) (Kp:List (Nat × Obj)) (xs:List BS) (z:BS) (p:Nat) (w:World):Prop:=Env B q jB jD w0 κ0 Kp (xs.getD p z) w
theorem vR.grew {xs:List BS} {z:BS}:∀(p:Nat) (w w':World),jC w w'→vR B q jB jD w0 κ0 Kp xs z p w→vR B q jB jD w0 κ0 Kp xs z p w':=λ_ _ _ hg h=>Env.grew h hg
def ZG (m:Nat) (φ:Value→World→Prop) (p:Nat) (v:Value) (w:World):Prop:=p≤m→φ v w
theorem ZG.st {φ:Value→World→Prop} {T:Nat→World→World→Prop} (h:∀v w w',jC w w'→φ v w→φ v w'):(∀p v w w',jC w w'→ZG 0 φ p v w→ZG 0 φ p v w')∧∀p v w w',T p w w'→ZG 0 φ p v w→ZG 0 φ (p+1) v w':=
 ⟨λp v w w' hg k hp=>h v w w' hg (k hp),λp v w w' _ _ hp=>absurd hp zo⟩
theorem buferr (h:Bd B q jB jD κ x w):Calls prog 164 #[jI q.b] w λr w'=>r=.returned (.int .i64 x.s.2)∧w'=w:=by
 obtain⟨_,o,h1,_⟩:=h.buf;exact KC h1
theorem buflen (h:Bd B q jB jD κ x w):Calls prog 98 #[jI q.b] w λr w'=>r=.returned (.int .i64 x.s.1.length)∧w'=w:=by
 obtain⟨_,o,h1,_⟩:=h.buf;exact K6 h1
theorem stkpush (h:Bd B q jB jD κ x w) (sv:Value) (v:V3) (hv:ValsAt w sv [v]) (hn:∀c,sv=.slice none 0 c→c=0) (hok:okV v):Calls prog 190 #[jI q.s,sv] w λr w'=>r=.returned (.int .i64 (mN x.stk.length))∧kL B q jB jD κ {x with stk:=mO x.stk v} w w':=by
 unfold mN mO;refine (FH sv h.stk h.ok.stk hv hn zp2).mono λr w' hr=>⟨hr.1,?_⟩;refine h.stk_step ?_ ?_ hr.2
 ·split
  ·rename_i hh;rw[List.length_append];exact hh
  exact h.ok.stk
 intro u hu;split at hu
 ·rcases List.mem_append.1 hu with hu|hu
  ·exact h.ok.okS u hu
  simp at hu;subst hu;exact hok
 exact h.ok.okS u hu
end
theorem ZV {q:zR} {x:BS} (v:V3) (hv:okV v) (h:Bd B q jB jD κ x w):Calls prog 138 #[jI q.p,vV v] w λr w'=>r=.returned (.tuple #[])∧kL B q jB jD κ (x.push v) w w':=by
 obtain⟨ty,wd,n⟩:=v;have HV:=zh hv;have HE:Hid (Env B q jB jD w κ [(w.heap.size,.cells #[.int .i64 ty,.int .i64 wd,.int .u64 n] 135 (0,0))] x (w.alloc (.cells #[.int .i64 ty,.int .i64 wd,.int .u64 n] 135))):=(Env.start h).add _;have HM:Hid ((w.heap.size,Obj.cells #[.int .i64 ty,.int .i64 wd,.int .u64 n] 135 (0,0))∈([(w.heap.size,.cells #[.int .i64 ty,.int .i64 wd,.int .u64 n] 135 (0,0))]:List (Nat × Obj))):=List.mem_singleton.2 rfl;clear h hv;show Calls prog 138 #[jI q.p,.agg #[.int .i64 ty,.int .i64 wd,.int .u64 n]] w _;have c0:=HE.at0;go_enter func138,ntmps138;go_wp2_with fail;generalize w.alloc _=w1 at *;refine (by obtain⟨κ1,hb,_⟩:=HE.out;exact buferr hb:Calls prog 164 #[jI q.b] w1 λr w'=>r=.returned (.int .i64 x.s.2)∧w'=w1).mono ?_;rintro r w1' ⟨rfl,hw1⟩;subst hw1;go_wp2_with fail;refine (HE.call λκ1 hb hz=>yN _ hb).mono ?_;rintro r w2 ⟨rfl,he⟩;have HE2:=zh he;clear he c0;have c2:=HE2.at2;by_cases he:zO x.e x.s.2=0
 ·have HX:Hid (x.push (ty,wd,n)=({x.fail x.s.2 with stk:=mO x.stk (ty,wd,n)}:BS).fail (mN x.stk.length)):=by
   show _=_;have h1:x.fail x.s.2={x with e:=0}:=by unfold BS.fail;rw[he]
   rw[h1];unfold BS.push;rw[if_pos he];by_cases hr:x.stk.length+1≤65536
   ·simp only[mO,mN,if_pos hr];rfl
   simp only[mO,mN,if_neg hr];rfl
  rw[show (x.fail x.s.2).e=0 from he] at c2;clear he;go_wp2_with fail;refine jQ [7,8] (vR B q jB jD w κ [(w.heap.size,.cells #[.int .i64 ty,.int .i64 wd,.int .u64 n] 135 (0,0))] [x.fail x.s.2,{x.fail x.s.2 with stk:=mO x.stk (ty,wd,n)}] (({x.fail x.s.2 with stk:=mO x.stk (ty,wd,n)}:BS).fail (mN x.stk.length))) (λ_ w w'=>jC w w') ((λp (_:Nat→Value)=>(λ_ _ _=>True) p)) [[],[],[1],[1,2],[1,2,3],[],[5],[1,2,3,4,5,6],[0,1,2,3,4,5,6,7]] [(16,0),(17,1),(18,2),(19,3),(20,4),(21,5),(22,6),(23,7),(24,8)]
   [IsP (jI q.p),IsP (jI q.p),IsP (jI q.p),IsP (.pointer (some ⟨q.p,1,none⟩)),IsP (jI q.s),IsP (.agg #[.int .i64 ty,.int .i64 wd,.int .u64 n]),ZG 0 (λv w=>(∃g,v=.slice (some ⟨g,0,none⟩) 1 1)∧ValsAt w v [(ty,wd,n)]),IsP (.int .i64 (mN x.stk.length)),IsP (.tuple #[])]
   sqc zk (vR.grew) (HE2.grew (jC.refl _).drew) zk zk ⟨jG,jG,jG,jG,jG,jG,KK (ZG.st (λv w w' hg h=>⟨h.1,h.2.grew hg⟩)),jG,jG,trivial⟩ rfl ?_ ?_
  ·intro y w2 hW hF;simp only[yR,IsP,Nat.reduceAdd,List.length_cons,List.length_nil] at hF hW;have h6:=hF.2.2.2.2.2.2.1;simp only[jF,Act.put,zq];simp only[hF];clear hF;go_wp2;go_end0;exact⟨rfl,by rw[HX];exact Env.turn hW⟩
  refine⟨zqd,zqd,zqd,zqd,?_⟩;constructor
  ·refine jP 0 0 ?_;intro y w2 p hlo hhi hW hD K hK;obtain rfl:p=0:=by omega
   have dd:=Env.at1 hW;exact zqr
  constructor
  ·refine jP 0 0 ?_;intro y w2 p hlo hhi hW hD K hK;obtain rfl:p=0:=by omega
   have d0:=Env.cell hW HM.out 0 _ rfl;have d1:=Env.cell hW HM.out 1 _ rfl;have d2:=Env.cell hW HM.out 2 _ rfl;exact zqr
  constructor
  ·refine jP 0 0 ?_;intro y w2 p hlo hhi hW hD K hK;simp only[kV,zq4,zq5,IsP] at hD;generalize hAA:jF y _ _=AA at hK⊢;simp only[jF,Act.put,zq,IsP] at hAA;subst hAA;simp only[zq4,zq5,IsP] at hK;simp only[hD] at hK⊢;clear hD;refine jN ?_;go_simp;exact hK _ _ _ rfl ((jC.refl _).alloc _) (λ_=>⟨⟨_,rfl⟩,Y2 w2 (ty,wd,n)⟩)
  constructor
  ·refine jZ 0 rfl ?_;intro y w2 hW hD K hK;simp only[kV,zq4,zq5,IsP] at hD;have h6:=hD.2.2.2.2.2.1;generalize hAA:jF y _ _=AA at hK⊢;simp only[jF,Act.put,zq,IsP] at hAA;subst hAA;simp only[zq4,zq5,IsP] at hK;simp only[hD] at hK⊢;clear hD;obtain⟨⟨g6,e6⟩,hv6⟩:=h6 (Nat.le_refl _);rw[e6] at hK hv6⊢;refine jN ?_;go_simp;refine (Env.call hW λκ1 hb hz=>stkpush hb (.slice (some ⟨g6,0,none⟩) 1 1) (ty,wd,n) hv6 (λc e=>by cases e) HV.out).mono ?_;rintro r w3 ⟨rfl,he⟩;exact hK _ _ _ rfl trivial he rfl
  constructor
  ·refine jZ 1 rfl ?_;intro y w2 hW hD K hK;simp only[kV,zq4,zq5,IsP] at hD;generalize hAA:jF y _ _=AA at hK⊢;simp only[jF,Act.put,zq,IsP] at hAA;subst hAA;simp only[zq4,zq5,IsP] at hK;simp only[hD] at hK⊢;clear hD;refine jN ?_;go_simp;refine (Env.call hW λκ1 hb hz=>yN _ hb).mono ?_;rintro r w3 ⟨rfl,he⟩;exact hK _ _ _ rfl trivial he rfl
  trivial
 have HX:Hid (x.push (ty,wd,n)=x.fail x.s.2):=by
  show _=_;unfold BS.push BS.fail;rw[if_neg he]
 generalize hex:(x.fail x.s.2).e=ex at *;have hne:¬ex=0:=by rw[← hex];exact he
 clear hex he;go_wp2;go_end0;exact⟨rfl,by rw[HX];exact HE2.turn⟩
theorem xor_zero (n:Int) (h0 : -9223372036854775808≤n) (h1:n≤9223372036854775807):bits .xor .i64 n 0=n:=by
 unfold bits;show IntKind.i64.wrap (((BitVec.ofInt 64 n) ^^^ (BitVec.ofInt 64 0)).toNat:Int)=_;rw[show BitVec.ofInt 64 0=0#64 from rfl,BitVec.xor_zero,BitVec.toNat_ofInt];simp[IntKind.wrap,IntKind.bits,IntKind.signed];omega
theorem MD (n:Int) (h0 : -9223372036854775808≤n) (h1:n≤9223372036854775807):bits .xor .i64 n (-1) = -n - 1:=by
 unfold bits;show IntKind.i64.wrap (((BitVec.ofInt 64 n) ^^^ (BitVec.ofInt 64 (-1))).toNat:Int)=_;rw[show BitVec.ofInt 64 (-1)=BitVec.allOnes 64 by decide,BitVec.xor_allOnes,BitVec.toNat_not,BitVec.toNat_ofInt];simp[IntKind.wrap,IntKind.bits,IntKind.signed];omega
theorem p9 (n:Int) (m:Nat) (hm:m < 2 ^ 63) (h:(0≤n∧n=m)∨(n < 0∧-n - 1=m)):Ft.leastW (1+(Lib.bitLen m:Int))=VO n:=by
 have hu:m < 2 ^ 64:=by omega
 have two:∀k:Nat,(Lib.bitLen m≤k∧m < 2 ^ k)∨(k < Lib.bitLen m∧2 ^ k≤m):=λk=>by
  have h:=Ft.bitLen_le m k hu;rcases Nat.lt_or_ge k (Lib.bitLen m) with h1|h1
  ·exact .inr ⟨h1,Nat.le_of_not_lt λh2=>by have:=h.2 h2;omega⟩
  exact .inl ⟨h1,h.1 h1⟩
 have a:=two 7;have b:=two 15;have c:=two 31;clear two;generalize Lib.bitLen m=z at *;unfold Ft.leastW VO
 repeat' split
 all_goals omega
theorem FM (n:Int) (w:World) (h0 : -9223372036854775808≤n) (h1:n≤9223372036854775807):Calls prog 181 #[.int .i64 n] w λr w'=>r=.returned (.int .i64 (VO n))∧w=w':=by
 by_cases hn:0≤n
 ·obtain⟨m,rfl⟩:=Int.eq_ofNat_of_zero_le hn;have hx:=xor_zero (m:Int) h0 h1;have HW:=zh (p9 (m:Int) m zo (.inl ⟨hn,rfl⟩));have hbl:=(Ft.bitLen_le m 64 zo).2 zo;have hwb:IntKind.i64.wrap (1+(Lib.bitLen m:Int))=1+Lib.bitLen m:=by rw[IntKind.wrap_i64];omega
  clear hbl;have hd:(m:Int) / 9223372036854775808=0:=by omega
  have hwu:IntKind.u64.wrap (m:Int)=m:=by simp[IntKind.wrap,IntKind.bits,IntKind.signed];omega
  go_enter func181,ntmps181;go_wp2_with fail;refine (Tryz.bits_Len64 (m:Int) _ zo zo).mono ?_;rintro r w1 ⟨rfl,rfl⟩;go_wp2_with fail;refine (Ft.least_any _ _).mono ?_;rintro r w1 ⟨rfl,rfl⟩;go_wp2;go_ret;exact⟨K5 HW.out,rfl⟩
 obtain⟨m,hm⟩:=Int.eq_ofNat_of_zero_le (show 0≤-n - 1 by omega);have hx:=MD n h0 h1;rw[hm] at hx;have HW:=zh (p9 n m zo (.inr ⟨by omega,hm⟩));have hbl:=(Ft.bitLen_le m 64 zo).2 zo;have hwb:IntKind.i64.wrap (1+(Lib.bitLen m:Int))=1+Lib.bitLen m:=by rw[IntKind.wrap_i64];omega
 clear hbl;have hd:n / 9223372036854775808 = -1:=by omega
 have hwu:IntKind.u64.wrap (m:Int)=m:=by simp[IntKind.wrap,IntKind.bits,IntKind.signed];omega
 have hm1:(m:Int)≤18446744073709551615:=by omega
 clear hm;go_enter func181,ntmps181;go_wp2_with fail;refine (Tryz.bits_Len64 (m:Int) _ zo hm1).mono ?_;rintro r w1 ⟨rfl,rfl⟩;go_wp2_with fail;refine (Ft.least_any _ _).mono ?_;rintro r w1 ⟨rfl,rfl⟩;go_wp2;go_ret;exact⟨K5 HW.out,rfl⟩
theorem mX (n:Int) (w:World) (h0 : -9223372036854775808≤n) (h1:n≤9223372036854775807):Calls prog 123 #[.int .i64 n] w λr w'=>r=.returned (vV (vE n))∧jC w w':=by
 obtain⟨jK,hg⟩:=sqal w (.cells #[.int .i64 0,.int .i64 0,.int .u64 0] 135);have hwu:IntKind.u64.wrap n=n % 18446744073709551616:=by simp[IntKind.wrap,IntKind.bits,IntKind.signed]
 have f0:=jE jK 0;have f1:=jE jK 1;have f2:=jE jK 2;obtain⟨c0,c1,c2⟩:=sqr3 jK;clear jK hg;go_enter func123,ntmps123;go_wp2_with fail;refine (FM n _ h0 h1).mono ?_;rintro r w1 ⟨rfl,rfl⟩;go_wp2;refine bodyPost_ret (v:=vV (vE n)) ?_ rfl ⟨rfl,(jC.refl w).alloc _⟩;simp[results,results123,go_sem,c0,c1,c2,vV,vE]
theorem mY (u:Int) (w:World) (h0:0≤u) (h1:u≤18446744073709551615):Calls prog 125 #[.int .u64 u] w λr w'=>r=.returned (vV (vF u))∧jC w w':=by
 obtain⟨jK,hg⟩:=sqal w (.cells #[.int .i64 0,.int .i64 0,.int .u64 0] 135);have f0:=jE jK 0;have f1:=jE jK 1;have f2:=jE jK 2;obtain⟨c0,c1,c2⟩:=sqr3 jK;clear jK hg;go_enter func125,ntmps125;go_wp2_with fail;refine (Ft.widthOf_any u _ h0 h1).mono ?_;rintro r w1 ⟨rfl,rfl⟩;go_wp2;refine bodyPost_ret (v:=vV (vF u)) ?_ rfl ⟨rfl,(jC.refl w).alloc _⟩;simp[results,results125,go_sem,c0,c1,c2,vV,vF]
theorem yV {q:zR} {x:BS} (h:Bd B q jB jD κ x w) (k:Nat) (cap:Array Value) (y:BS) (hy:x.e≠0→y=x) (he:∀w,(callFunc k cap).run prog w=.ok (.enter k cap) w)
 (hdo:x.e=0→Calls prog k cap w λr w'=>r=.returned (.tuple #[])∧kL B q jB jD κ y w w') :
 Calls prog 128 #[jI q.p,.func (.func k) #[] cap] w λr w'=>r=.returned (.tuple #[])∧kL B q jB jD κ y w w':=by
 have HB:=zh h;have HD:=zh hdo;have HY:=zh hy;have HE:=zh (MC h);clear h hdo hy;by_cases hx:x.e=0
 ·rw[hx] at HE;have HX:=zh hx;clear hx;go_enter func128,ntmps128;go_wp2_with fail;refine HE.mono ?_;rintro r w' ⟨rfl,rfl⟩;go_wp2_with fail;refine (HD.out HX.out).mono ?_;rintro r w2 ⟨rfl,ht⟩;have HT:=zh ht;clear ht;go_wp2;go_end0;exact⟨rfl,HT.out⟩
 have HX:=zh hx;obtain⟨e,hee⟩:∃e,x.e=e:=⟨_,rfl⟩;rw[hee] at HE;have hne:¬e=0:=by rw[← hee];exact hx
 clear hx hee;go_enter func128,ntmps128;go_wp2_with fail;refine HE.mono ?_;rintro r w' ⟨rfl,rfl⟩;go_wp2;go_end0;exact⟨rfl,by rw[HY.out HX.out];exact HB.refl⟩
section
variable {B:Nat} {q:zR} {jB jD:Int} {κ0:Nat→Nat} {x y:BS} {w w0:World} {Kp:List (Nat × Obj)}
theorem Env.call' {f:Nat} {args:Array Value} {R:Ending→Prop} (h:Env B q jB jD w0 κ0 Kp x w) (hc:∀κ,Bd B q jB jD κ x w→Env B q jB jD w κ Kp x w→Calls prog f args w λr w'=>R r∧kL B q jB jD κ y w w') :
 Calls prog f args w λr w'=>R r∧Env B q jB jD w0 κ0 Kp y w':=by
 refine Env.call h λκ hb hz=>hc κ hb ⟨κ,hb,Tn.refl _ _,λz hm=>⟨?_,hz z hm⟩⟩;obtain⟨_,_,_,h3⟩:=h;exact (h3 z hm).1
end
theorem xM {q:zR} {x:BS} (n1 n2:Nat) (ty wd n:Int) (hv:okV (ty,wd,n)) (he:Env B q jB jD w κ [(n2,Obj.cells #[.int .i64 ty,.int .i64 wd,.int .u64 n] 135 (0,0)),(n1,Obj.cells #[jI q.p] 70 (0,0))] x w):Calls prog 238 #[.pointer (some ⟨n1,0,none⟩),.pointer (some ⟨n2,0,none⟩)] w λr w'=>r=.returned (.tuple #[])∧kL B q jB jD κ (x.push (ty,wd,n)) w w':=by
 have HE:=zh he;clear he;have HM2:Hid ((n2,Obj.cells #[.int .i64 ty,.int .i64 wd,.int .u64 n] 135 (0,0))∈([(n2,Obj.cells #[.int .i64 ty,.int .i64 wd,.int .u64 n] 135 (0,0)),(n1,Obj.cells #[jI q.p] 70 (0,0))]:List (Nat × Obj))):=List.mem_cons_self;have HM1:Hid ((n1,Obj.cells #[jI q.p] 70 (0,0))∈([(n2,Obj.cells #[.int .i64 ty,.int .i64 wd,.int .u64 n] 135 (0,0)),(n1,Obj.cells #[jI q.p] 70 (0,0))]:List (Nat × Obj))):=List.mem_cons_of_mem _ List.mem_cons_self;have HV:=zh hv;clear hv;go_enter func238,ntmps238;go_wp2_with fail;refine jQ [4] (vR B q jB jD w κ [(n2,Obj.cells #[.int .i64 ty,.int .i64 wd,.int .u64 n] 135 (0,0)),(n1,Obj.cells #[jI q.p] 70 (0,0))] [x] (x.push (ty,wd,n))) (λ_ w w'=>jC w w') ((λp (_:Nat→Value)=>(λ_ _ _=>True) p)) [[],[0],[0,1],[],[0,1,2,3]] [(2,0),(3,1),(4,2),(5,3),(6,4)]
  [IsP (jI q.p),IsP (jI q.p),IsP (jI q.p),IsP (.agg #[.int .i64 ty,.int .i64 wd,.int .u64 n]),IsP (.tuple #[])]
  sqc zk (vR.grew) (HE.grew (jC.refl _).drew) zk zk ⟨jG,jG,jG,jG,jG,trivial⟩ rfl ?_ ?_
 ·intro y w2 hW hF;simp only[yR,IsP,Nat.reduceAdd,List.length_cons,List.length_nil] at hF hW;simp only[jF,Act.put,zq];simp only[hF];clear hF;go_wp2;go_end0;exact⟨rfl,Env.turn hW⟩
 constructor
 ·refine jP 0 0 ?_;intro y w2 p hlo hhi hW hD K hK;obtain rfl:p=0:=by omega
  have d0:=Env.cell hW HM1.out 0 _ rfl;exact zqr
 refine⟨zqd,zqd,?_⟩;constructor
 ·refine jP 0 0 ?_;intro y w2 p hlo hhi hW hD K hK;obtain rfl:p=0:=by omega
  have d0:=Env.cell hW HM2.out 0 _ rfl;have d1:=Env.cell hW HM2.out 1 _ rfl;have d2:=Env.cell hW HM2.out 2 _ rfl;exact zqr
 constructor
 ·refine jZ 0 rfl ?_;intro y w2 hW hD K hK;simp only[kV,zq4,zq5,IsP] at hD;generalize hAA:jF y _ _=AA at hK⊢;simp only[jF,Act.put,zq,IsP] at hAA;subst hAA;simp only[zq4,zq5,IsP] at hK;simp only[hD] at hK⊢;clear hD;refine jN ?_;go_simp;refine (Env.call hW λκ1 hb hz=>ZV (ty,wd,n) HV.out hb).mono ?_;rintro r w3 ⟨rfl,he⟩;exact hK _ _ _ rfl trivial he rfl
 trivial
theorem inline_any {q:zR} {x:BS} (v:V3) (hv:okV v) (h:Bd B q jB jD κ x w):Calls prog 194 #[jI q.p,vV v] w λr w'=>r=.returned (.tuple #[])∧kL B q jB jD κ (x.inline v) w w':=by
 obtain⟨ty,wd,n⟩:=v;have HV:=zh hv
 have HE:Hid (Env B q jB jD w κ [(w.heap.size+1,Obj.cells #[.int .i64 ty,.int .i64 wd,.int .u64 n] 135 (0,0)),(w.heap.size,Obj.cells #[jI q.p] 70 (0,0))] x ((w.alloc (.cells #[jI q.p] 70)).alloc (.cells #[.int .i64 ty,.int .i64 wd,.int .u64 n] 135))):=by
  have hh:=((Env.start h).add (.cells #[jI q.p] 70)).add (.cells #[.int .i64 ty,.int .i64 wd,.int .u64 n] 135);simp only[World.size_alloc,Nat.add_assoc,Nat.reduceAdd] at hh;exact hh
 clear h hv;show Calls prog 194 #[jI q.p,.agg #[.int .i64 ty,.int .i64 wd,.int .u64 n]] w _;go_enter func194,ntmps194;go_wp2_with fail;refine (HE.call' λκ1 hb he=>yV hb _ _ (x.inline (ty,wd,n)) (λhx=>by unfold BS.inline;rw[if_neg hx]) (λ_=>enters_of func238 zk rfl _ _) (λhx=>by unfold BS.inline;rw[if_pos hx];exact xM _ _ ty wd n HV.out he)).mono ?_;rintro r w5 ⟨rfl,he⟩;have HT:=zh he;clear he;go_wp2;go_end0;exact⟨rfl,HT.turn⟩
theorem iX (n:Int) (h0 : -9223372036854775808≤n) (h1:n≤9223372036854775807):okV (vE n):=by unfold okV vE;dsimp only;omega
theorem iY (u:Int) (h0:0≤u) (h1:u≤18446744073709551615):okV (vF u):=by unfold okV vF;dsimp only;omega
theorem rA (b:Bool):okV (y6 b):=by unfold okV y6;cases b<;>simp
theorem mZ (b:Bool) (w:World):Calls prog 127 #[.bool b] w λr w'=>r=.returned (vV (y6 b))∧jC w w':=by
 have hg:=(jC.refl w).alloc (.cells #[.int .i64 0,.int .i64 0,.int .u64 0] 135);cases b
 all_goals
  go_enter func127,ntmps127;go_wp2;refine bodyPost_ret (v:=vV (y6 _)) ?_ rfl ⟨rfl,?_⟩
  ·simp[results,results127,go_sem,vV,y6]
  exact ((jC.refl w).alloc _).alloc _
theorem FN {q:zR} {x:BS}  (h:Bd B q jB jD κ x w):Calls prog 143 #[jI q.p] w λr w'=>r=.returned (.tuple #[])∧kL B q jB jD κ (x.inline ((0,1,0))) w w':=by
 have HE:=zh h;clear h;go_enter func143,ntmps143;go_wp2_with fail;refine (inline_any ((0,1,0)) (by unfold okV;simp) HE.out).mono ?_;rintro r w2 ⟨rfl,ht⟩;have HT:=zh ht;clear ht;go_wp2;go_end0;exact⟨rfl,HT.out⟩
theorem FO {q:zR} {x:BS} (b:Bool) (h:Bd B q jB jD κ x w):Calls prog 144 #[jI q.p,.bool b] w λr w'=>r=.returned (.tuple #[])∧kL B q jB jD κ (x.inline (y6 b)) w w':=by
 have HE:=zh h;clear h;go_enter func144,ntmps144;go_wp2_with fail;refine (mZ b _).mono ?_;rintro r w1 ⟨rfl,hg⟩;have HG:=zh hg;clear hg;go_wp2_with fail;refine (inline_any (y6 b) (rA b) (HE.grew HG.out)).mono ?_;rintro r w2 ⟨rfl,ht⟩;have HT:=zh ht;clear ht;go_wp2;go_end0;exact⟨rfl,HT.after HG.out⟩
theorem ME {q:zR} {x:BS} (n:Int) (h0 : -9223372036854775808≤n) (h1:n≤9223372036854775807) (h:Bd B q jB jD κ x w):Calls prog 145 #[jI q.p,.int .i64 n] w λr w'=>r=.returned (.tuple #[])∧kL B q jB jD κ (x.inline (vE n)) w w':=by
 have HE:=zh h;clear h;go_enter func145,ntmps145;go_wp2_with fail;refine (mX n _ h0 h1).mono ?_;rintro r w1 ⟨rfl,hg⟩;have HG:=zh hg;clear hg;go_wp2_with fail;refine (inline_any (vE n) (iX n h0 h1) (HE.grew HG.out)).mono ?_;rintro r w2 ⟨rfl,ht⟩;have HT:=zh ht;clear ht;go_wp2;go_end0;exact⟨rfl,HT.after HG.out⟩
theorem FP {q:zR} {x:BS} (u:Int) (h0:0≤u) (h1:u≤18446744073709551615) (h:Bd B q jB jD κ x w):Calls prog 146 #[jI q.p,.int .u64 u] w λr w'=>r=.returned (.tuple #[])∧kL B q jB jD κ (x.inline (vF u)) w w':=by
 have HE:=zh h;clear h;go_enter func146,ntmps146;go_wp2_with fail;refine (mY u _ h0 h1).mono ?_;rintro r w1 ⟨rfl,hg⟩;have HG:=zh hg;clear hg;go_wp2_with fail;refine (inline_any (vF u) (iY u h0 h1) (HE.grew HG.out)).mono ?_;rintro r w2 ⟨rfl,ht⟩;have HT:=zh ht;clear ht;go_wp2;go_end0;exact⟨rfl,HT.after HG.out⟩
section
variable {B:Nat} {q:zR} {jB jD:Int} {κ0:Nat→Nat} {x:BS} {w w0:World} {Kp:List (Nat × Obj)}
theorem Env.buflen (h:Env B q jB jD w0 κ0 Kp x w):Calls prog 98 #[jI q.b] w λr w'=>r=.returned (.int .i64 x.s.1.length)∧w'=w:=by
 obtain⟨κ,hb,_⟩:=h;exact Go.Proofs.YtdjoffgkndncfaaGreat.buflen hb
theorem Env.buferr (h:Env B q jB jD w0 κ0 Kp x w):Calls prog 164 #[jI q.b] w λr w'=>r=.returned (.int .i64 x.s.2)∧w'=w:=by
 obtain⟨κ,hb,_⟩:=h;exact Go.Proofs.YtdjoffgkndncfaaGreat.buferr hb
theorem Env.ok (h:Env B q jB jD w0 κ0 Kp x w):x.Ok jB:=by obtain⟨κ,hb,_⟩:=h;exact hb.ok
theorem Env.len (h:Env B q jB jD w0 κ0 Kp x w):x.s.1.length≤1048576:=by have:=h.ok.len;have:=h.ok.m1;omega
end
theorem xN (n x:Int) (w:World) (hx:isW x=true) (n0:0≤n) (n1:n≤18446744073709551615):Calls prog 101 #[.int .u64 n,.int .i64 x] w λr w'=>r=.returned (.int .u64 (yD n x))∧w'=w:=by
 rcases zW hx with rfl|rfl|rfl|rfl
 all_goals
  clear hx;go_enter func101,ntmps101;go_wp2;go_ret;refine⟨K5 ?_,rfl⟩;unfold yD
  first
   | (show n=_;rw[Int.emod_eq_of_lt n0 zp6])
   | (show IntKind.u64.wrap _ / _=_
      simp[IntKind.wrap,IntKind.bits,IntKind.signed]
      omega)
theorem VS (n:Nat) (h:n≤1048576):IntKind.u64.wrap (n:Int)=n:=by simp[IntKind.wrap,IntKind.bits,IntKind.signed];omega
theorem CC {q:zR} {x:BS} (n1 n2 n3:Nat) (t ty wd u:Int) (hw:isW wd=true) (hv:okV (ty,wd,u)) (ht0 : -9223372036854775808≤t) (ht1:t≤9223372036854775807) (hx:x.e=0) (he:Env B q jB jD w κ [(n3,Obj.cells #[.int .i64 ty,.int .i64 wd,.int .u64 u] 135 (0,0)),(n2,Obj.cells #[.int .i64 t] 3 (0,0)),(n1,Obj.cells #[jI q.p] 70 (0,0))] x w):Calls prog 239 #[.pointer (some ⟨n1,0,none⟩),.pointer (some ⟨n3,0,none⟩),.pointer (some ⟨n2,0,none⟩)] w λr w'=>r=.returned (.tuple #[])∧kL B q jB jD κ (x.apart jB t (ty,wd,u)) w w':=by
 have HE:=zh he;have HY:Hid (x.apart jB t (ty,wd,u)=(BS.push (t,wd,((jL jB wd x.s).1.length:Int)) {x with s:=j9 jB wd (yD u wd) (jL jB wd x.s)})):=by show _=_;unfold BS.apart;rw[if_pos hx]
 have HIW:=zh hw;have HU:Hid (0≤u∧u≤18446744073709551615):=by unfold okV at hv;dsimp only at hv;show _∧_;omega
 have HLO:=zh (VJ (x:=wd) HU.1 HU.2);have HLN:Hid ((jL jB wd x.s).1.length≤1048576):=by have h1:=z8 (x:=wd) he.ok.len;have h2:=he.ok.m1;show _≤_;omega
 have HVT:Hid (okV (t,wd,((jL jB wd x.s).1.length:Int))):=by have h:=HLN.out;show (0:Int)≤((jL jB wd x.s).1.length:Int)∧((jL jB wd x.s).1.length:Int)≤18446744073709551615;omega
 have hwa:=VS _ HLN.out;have HM3:Hid ((n3,Obj.cells #[.int .i64 ty,.int .i64 wd,.int .u64 u] 135 (0,0))∈([(n3,Obj.cells #[.int .i64 ty,.int .i64 wd,.int .u64 u] 135 (0,0)),(n2,Obj.cells #[.int .i64 t] 3 (0,0)),(n1,Obj.cells #[jI q.p] 70 (0,0))]:List (Nat × Obj))):=List.mem_cons_self;have HM2:Hid ((n2,Obj.cells #[.int .i64 t] 3 (0,0))∈([(n3,Obj.cells #[.int .i64 ty,.int .i64 wd,.int .u64 u] 135 (0,0)),(n2,Obj.cells #[.int .i64 t] 3 (0,0)),(n1,Obj.cells #[jI q.p] 70 (0,0))]:List (Nat × Obj))):=List.mem_cons_of_mem _ (List.mem_cons_self);have HM1:Hid ((n1,Obj.cells #[jI q.p] 70 (0,0))∈([(n3,Obj.cells #[.int .i64 ty,.int .i64 wd,.int .u64 u] 135 (0,0)),(n2,Obj.cells #[.int .i64 t] 3 (0,0)),(n1,Obj.cells #[jI q.p] 70 (0,0))]:List (Nat × Obj))):=List.mem_cons_of_mem _ (List.mem_cons_of_mem _ (List.mem_cons_self));clear he hw hv ht0 ht1 hx;go_enter func239,ntmps239;go_wp2_with fail;refine jQ [7] (vR B q jB jD w κ [(n3,Obj.cells #[.int .i64 ty,.int .i64 wd,.int .u64 u] 135 (0,0)),(n2,Obj.cells #[.int .i64 t] 3 (0,0)),(n1,Obj.cells #[jI q.p] 70 (0,0))] [x] ({x with s:=jL jB wd x.s})) (λ_ w w'=>jC w w') ((λp (_:Nat→Value)=>(λ_ _ _=>True) p)) [[],[0],[0,1],[0,1,2],[0,1,2,3],[],[5],[0,1,2,3,4,5,6]] [(4,0),(5,1),(6,2),(7,3),(8,4),(9,5),(10,6),(11,7)]
  [IsP (jI q.p),IsP (jI q.p),IsP (jI q.p),IsP (jI q.p),IsP (jI q.b),IsP (.pointer (some ⟨n3,1,none⟩)),IsP (.int .i64 wd),IsP (.tuple #[])]
  sqc zk (vR.grew) (HE.grew (jC.refl _).drew) zk zk ⟨jG,jG,jG,jG,jG,jG,jG,jG,trivial⟩ rfl ?_ ?_
 ·intro y w2 hW hF;simp only[yR,IsP,Nat.reduceAdd,List.length_cons,List.length_nil] at hF hW;simp only[jF,Act.put,zq];simp only[hF];clear hF;have HE1:Hid (Env B q jB jD w κ [(n3,Obj.cells #[.int .i64 ty,.int .i64 wd,.int .u64 u] 135 (0,0)),(n2,Obj.cells #[.int .i64 t] 3 (0,0)),(n1,Obj.cells #[jI q.p] 70 (0,0))] ({x with s:=jL jB wd x.s}) w2):=hW;have c0:=HE1.at0;have cb:=Env.cell HE1.out HM1.out 0 _ rfl;go_wp2_with fail;refine HE1.buflen.mono ?_;rintro r w9 ⟨rfl,hw9⟩;obtain rfl:w2=w9:=hw9.symm;clear c0 cb;go_wp2_with fail;refine jQ [12] (vR B q jB jD w κ [(n3,Obj.cells #[.int .i64 ty,.int .i64 wd,.int .u64 u] 135 (0,0)),(n2,Obj.cells #[.int .i64 t] 3 (0,0)),(n1,Obj.cells #[jI q.p] 70 (0,0))] [{x with s:=jL jB wd x.s}] ({x with s:=j9 jB wd (yD u wd) (jL jB wd x.s)})) (λ_ w w'=>jC w w') ((λp (_:Nat→Value)=>(λ_ _ _=>True) p)) [[],[0],[0,1],[0,1,2],[0,1,2,3],[],[5],[],[7],[],[9],[7,8,9,10],[0,1,2,3,4,5,6,7,8,9,10,11]] [(18,0),(19,1),(20,2),(21,3),(22,4),(23,5),(24,6),(25,7),(26,8),(27,9),(28,10),(29,11),(30,12)]
   [IsP (jI q.p),IsP (jI q.p),IsP (jI q.p),IsP (jI q.p),IsP (jI q.b),IsP (.pointer (some ⟨n3,1,none⟩)),IsP (.int .i64 wd),IsP (.pointer (some ⟨n3,2,none⟩)),IsP (.int .u64 u),IsP (.pointer (some ⟨n3,1,none⟩)),IsP (.int .i64 wd),IsP (.int .u64 (yD u wd)),IsP (.tuple #[])]
   sqc zk (vR.grew) (HE1.grew (jC.refl _).drew) zk zk ⟨jG,jG,jG,jG,jG,jG,jG,jG,jG,jG,jG,jG,jG,trivial⟩ rfl ?_ ?_
  ·intro y w2 hW hF;simp only[yR,IsP,Nat.reduceAdd,List.length_cons,List.length_nil] at hF hW;simp only[jF,Act.put,zq];simp only[hF];clear hF;have HE2:Hid (Env B q jB jD w κ [(n3,Obj.cells #[.int .i64 ty,.int .i64 wd,.int .u64 u] 135 (0,0)),(n2,Obj.cells #[.int .i64 t] 3 (0,0)),(n1,Obj.cells #[jI q.p] 70 (0,0))] ({x with s:=j9 jB wd (yD u wd) (jL jB wd x.s)}) w2):=hW;go_wp2_with fail;refine jQ [9] (vR B q jB jD w κ [(n3,Obj.cells #[.int .i64 ty,.int .i64 wd,.int .u64 u] 135 (0,0)),(n2,Obj.cells #[.int .i64 t] 3 (0,0)),(n1,Obj.cells #[jI q.p] 70 (0,0))] [{x with s:=j9 jB wd (yD u wd) (jL jB wd x.s)}] ((BS.push (t,wd,((jL jB wd x.s).1.length:Int)) {x with s:=j9 jB wd (yD u wd) (jL jB wd x.s)}))) (λ_ w w'=>jC w w') ((λp (_:Nat→Value)=>(λ_ _ _=>True) p)) [[],[0],[0,1],[],[],[4],[],[6],[3,4,5,6,7],[0,1,2,3,4,5,6,7,8]] [(31,0),(32,1),(33,2),(34,3),(35,4),(36,5),(37,6),(38,7),(39,8),(40,9)]
    [IsP (jI q.p),IsP (jI q.p),IsP (jI q.p),IsP (.int .i64 t),IsP (.pointer (some ⟨n3,1,none⟩)),IsP (.int .i64 wd),IsP (.int .i64 (jL jB wd x.s).1.length),IsP (.int .u64 (jL jB wd x.s).1.length),IsP (.agg #[.int .i64 t,.int .i64 wd,.int .u64 (jL jB wd x.s).1.length]),IsP (.tuple #[])]
    sqc zk (vR.grew) (HE2.grew (jC.refl _).drew) zk zk ⟨jG,jG,jG,jG,jG,jG,jG,jG,jG,jG,trivial⟩ rfl ?_ ?_
   ·intro y w2 hW hF;simp only[yR,IsP,Nat.reduceAdd,List.length_cons,List.length_nil] at hF hW;simp only[jF,Act.put,zq];simp only[hF];clear hF;go_wp2;go_end0;exact⟨rfl,by rw[HY];exact Env.turn hW⟩
   constructor
   ·exact zb58
   refine⟨zqd,zqd,?_⟩;constructor
   ·refine jP 0 0 ?_;intro y w2 p hlo hhi hW hD K hK;obtain rfl:p=0:=(by omega);have d20:=Env.cell hW HM2.out 0 _ rfl;exact zqr
   refine⟨zqd,?_⟩;constructor
   ·exact zb59
   refine⟨zqd,zqd,zqd,?_⟩;constructor
   ·refine jZ 0 rfl ?_;intro y w2 hW hD K hK;simp only[kV,zq4,zq5,IsP] at hD;generalize hAA:jF y _ _=AA at hK⊢;simp only[jF,Act.put,zq,IsP] at hAA;subst hAA;simp only[zq4,zq5,IsP] at hK;simp only[hD] at hK⊢;clear hD;refine jN ?_;go_simp;refine (Env.call hW λκ1 hb hz=>ZV (t,wd,((jL jB wd x.s).1.length:Int)) HVT.out hb).mono ?_;rintro r w3 ⟨rfl,he⟩;exact hK _ _ _ rfl trivial he rfl
   trivial
  constructor
  ·exact zb58
  refine⟨zqd,zqd,zqd,?_⟩;constructor
  ·exact zb60
  refine⟨zqd,?_⟩;constructor
  ·exact zb59
  refine⟨zqd,?_⟩;constructor
  ·refine jP 0 0 ?_;intro y w2 p hlo hhi hW hD K hK;obtain rfl:p=0:=by omega
   have d32:=Env.cell hW HM3.out 2 _ rfl;exact zqr
  refine⟨zqd,?_⟩;constructor
  ·exact zb59
  constructor
  ·refine jP 0 0 ?_;intro y w2 p hlo hhi hW hD K hK;simp only[kV,zq4,zq5,IsP] at hD;generalize hAA:jF y _ _=AA at hK⊢;simp only[jF,Act.put,zq,IsP] at hAA;subst hAA;simp only[zq4,zq5,IsP] at hK;simp only[hD] at hK⊢;clear hD;refine jN ?_;go_simp;refine (xN u wd w2 HIW.out HU.1 HU.2).mono ?_;rintro r w3 ⟨rfl,hw3⟩;exact hK _ _ _ rfl (by rw[hw3];exact jC.refl _) rfl
  constructor
  ·refine jZ 0 rfl ?_;intro y w2 hW hD K hK;simp only[kV,zq4,zq5,IsP] at hD;generalize hAA:jF y _ _=AA at hK⊢;simp only[jF,Act.put,zq,IsP] at hAA;subst hAA;simp only[zq4,zq5,IsP] at hK;simp only[hD] at hK⊢;clear hD;refine jN ?_;go_simp;refine (Env.call hW λκ1 hb hz=>hb.buf_calls (x:={x with s:=jL jB wd x.s}) (qV hb.ok.len) (λo ho _=>JF (jL jB wd x.s) wd (yD u wd) ho (Nat.zero_le _) hb.ok.len hb.ok.m1 HLO.1 HLO.2)).mono ?_;rintro r w3 ⟨rfl,he⟩;exact hK _ _ _ rfl trivial he rfl
  trivial
 constructor
 ·exact zb58
 refine⟨zqd,zqd,zqd,?_⟩;constructor
 ·exact zb60
 refine⟨zqd,?_⟩;constructor
 ·exact zb59
 constructor
 ·refine jZ 0 rfl ?_;intro y w2 hW hD K hK;simp only[kV,zq4,zq5,IsP] at hD;generalize hAA:jF y _ _=AA at hK⊢;simp only[jF,Act.put,zq,IsP] at hAA;subst hAA;simp only[zq4,zq5,IsP] at hK;simp only[hD] at hK⊢;clear hD;refine jN ?_;go_simp;refine (Env.call hW λκ1 hb hz=>hb.buf_calls (z8 hb.ok.len) (λo ho _=>ZS x.s wd ho (Nat.zero_le _) hb.ok.len hb.ok.m1)).mono ?_;rintro r w3 ⟨rfl,he⟩;exact hK _ _ _ rfl trivial he rfl
 trivial
theorem rB {q:zR} {x:BS} (t:Int) (v:V3) (hw:isW v.2.1=true) (hv:okV v) (ht0 : -9223372036854775808≤t) (ht1:t≤9223372036854775807) (h:Bd B q jB jD κ x w):Calls prog 195 #[jI q.p,.int .i64 t,vV v] w λr w'=>r=.returned (.tuple #[])∧kL B q jB jD κ (x.apart jB t v) w w':=by
 obtain⟨ty,wd,u⟩:=v;have HV:=zh hv;have HIW:Hid (isW wd=true):=hw;have HT0:=zh (And.intro ht0 ht1)
 have HE:Hid (Env B q jB jD w κ [(w.heap.size+2,Obj.cells #[.int .i64 ty,.int .i64 wd,.int .u64 u] 135 (0,0)),(w.heap.size+1,Obj.cells #[.int .i64 t] 3 (0,0)),(w.heap.size,Obj.cells #[jI q.p] 70 (0,0))] x (((w.alloc (.cells #[jI q.p] 70)).alloc (.cells #[.int .i64 t] 3)).alloc (.cells #[.int .i64 ty,.int .i64 wd,.int .u64 u] 135))):=by
  have hh:=(((Env.start h).add (.cells #[jI q.p] 70)).add (.cells #[.int .i64 t] 3)).add (.cells #[.int .i64 ty,.int .i64 wd,.int .u64 u] 135);simp only[World.size_alloc,Nat.add_assoc,Nat.reduceAdd] at hh;exact hh
 clear h hv hw;show Calls prog 195 #[jI q.p,.int .i64 t,.agg #[.int .i64 ty,.int .i64 wd,.int .u64 u]] w _;go_enter func195,ntmps195;go_wp2_with fail;refine (HE.call' λκ1 hb he=>yV hb _ _ (x.apart jB t (ty,wd,u)) (λhx=>by unfold BS.apart;rw[if_neg hx]) (λ_=>enters_of func239 zk rfl _ _) (λhx=>CC _ _ _ t ty wd u HIW.out HV.out HT0.1 HT0.2 hx he)).mono ?_;rintro r w5 ⟨rfl,he⟩;have HT:=zh he;clear he;go_wp2;go_end0;exact⟨rfl,HT.turn⟩
theorem dC (n:Int):isW (VO n)=true:=by
 unfold VO
 repeat' split
 all_goals rfl
theorem JE (n:Nat):isW (Ft.widthOf n)=true:=by
 unfold Ft.widthOf
 repeat' split
 all_goals rfl
theorem xO {q:zR} {x:BS} (n:Int) (h0 : -9223372036854775808≤n) (h1:n≤9223372036854775807) (h:Bd B q jB jD κ x w):Calls prog 147 #[jI q.p,.int .i64 n] w λr w'=>r=.returned (.tuple #[])∧kL B q jB jD κ (x.apart jB 6 (vE n)) w w':=by
 have HE:=zh h;clear h;go_enter func147,ntmps147;go_wp2_with fail;refine (mX n _ h0 h1).mono ?_;rintro r w1 ⟨rfl,hg⟩;have HG:=zh hg;clear hg;go_wp2_with fail;refine (rB 6 (vE n) (dC n) (iX n h0 h1) zd zd (HE.grew HG.out)).mono ?_;rintro r w2 ⟨rfl,ht⟩;have HT:=zh ht;clear ht;go_wp2;go_end0;exact⟨rfl,HT.after HG.out⟩
theorem tI {q:zR} {x:BS} (u:Int) (h0:0≤u) (h1:u≤18446744073709551615) (h:Bd B q jB jD κ x w):Calls prog 148 #[jI q.p,.int .u64 u] w λr w'=>r=.returned (.tuple #[])∧kL B q jB jD κ (x.apart jB 7 (vF u)) w w':=by
 have HE:=zh h;clear h;go_enter func148,ntmps148;go_wp2_with fail;refine (mY u _ h0 h1).mono ?_;rintro r w1 ⟨rfl,hg⟩;have HG:=zh hg;clear hg;go_wp2_with fail;refine (rB 7 (vF u) (JE _) (iY u h0 h1) zd zd (HE.grew HG.out)).mono ?_;rintro r w2 ⟨rfl,ht⟩;have HT:=zh ht;clear ht;go_wp2;go_end0;exact⟨rfl,HT.after HG.out⟩
end Go.Proofs.YtdjoffgkndncfaaGreat
namespace Go.Proofs.YtdjoffgkndncfaaGreat
open Go.Proofs.Tryz
open Go Go.ChangeShapes Go.WideShapes Go.ChangeAt Go.RowKit Go.Joins Go.Deep
open Ft (V3 vV okV ValsAt inlineB legalB packF codeF typedF allF oneF fitsF belowW allAt headF fitsL fitsV)
theorem rC (n:Nat) (h:n < 2 ^ 64):(n:Int) < 2 ^ (8*(Ft.widthOf n).toNat):=by
 unfold Ft.widthOf
 repeat' split
 ·show (n:Int) < 2 ^ 8;omega
 ·show (n:Int) < 2 ^ 16;omega
 ·show (n:Int) < 2 ^ 32;omega
 show (n:Int) < 2 ^ 64;omega
theorem aT (k z:ByteArray):(jS [k,z]).length=k.size+z.size:=by
 have h:(jS [k,z]).length=k.data.size+z.data.size:=by simp[jS]
 exact h
def QE (b:List UInt8) (k z:ByteArray):List UInt8:=kD (j8 b (Ft.widthOf k.size))++k8 (Ft.widthOf k.size).toNat k.size++jS [k,z]
def YE (b:List UInt8) (k:ByteArray):Int:=(b.length:Int)+j8 b (Ft.widthOf k.size)+Ft.widthOf k.size
theorem VT (b:List UInt8) (k z:ByteArray):((QE b k z).length:Int)=j8 b (Ft.widthOf k.size)+Ft.widthOf k.size+k.size+z.size:=by
 have hp:=zA (JE k.size);unfold QE;rw[List.length_append,List.length_append,jT,kF,aT];omega
theorem text_ok {jB t:Int} {x:BS} {b:List UInt8} {k z:ByteArray} (he:x.e=0) (hs:x.s=(b,0)) (hl:x.stk.length+1≤65536) (hk:k.size < 2 ^ 64) (hm:((b++QE b k z).length:Int)≤jB) :
 x.text jB t k z={x with s:=(b++QE b k z,0),texts:=if t=5 then qD k (YE b k) x.texts else x.texts,stk:=x.stk++[(t,Ft.widthOf k.size,YE b k)]}:=by
 have hw:=JE k.size;have hp:=zA hw;have hlt:=VT b k z;rw[List.length_append] at hm;have e1:jL jB (Ft.widthOf k.size) (b,0)=(b++kD (j8 b (Ft.widthOf k.size)),0):=mR hw zo
 have e2:j9 jB (Ft.widthOf k.size) k.size (jL jB (Ft.widthOf k.size) x.s)=(b++kD (j8 b (Ft.widthOf k.size))++k8 (Ft.widthOf k.size).toNat k.size,0):=by
  rw[hs,e1,Z7 hw (rC k.size hk)];exact J1 _ _ _ (by rw[List.length_append,jT,kF];omega)
 have e3:kQ jB (jS [k,z]) (b++kD (j8 b (Ft.widthOf k.size))++k8 (Ft.widthOf k.size).toNat k.size,0)=(b++QE b k z,0):=by
  rw[J1 _ _ _ (by rw[List.length_append,List.length_append,jT,kF,aT];omega)];simp only[QE,List.append_assoc]
 have e4:((b++kD (j8 b (Ft.widthOf k.size))++k8 (Ft.widthOf k.size).toNat k.size).length:Int)=YE b k:=by
  unfold YE;rw[List.length_append,List.length_append,jT,kF];omega
 unfold BS.text;simp only[e2,e3,e4];exact DT he rfl hl
theorem eN {X:Int} (b:List UInt8) (hX:isW X=true):(j8 b X:Int)≤7:=by
 unfold j8;rcases zW hX with rfl|rfl|rfl|rfl<;>omega
end Go.Proofs.YtdjoffgkndncfaaGreat
namespace Go.Proofs.YtdjoffgkndncfaaGreat
open Go.Proofs.Tryz
open Go Go.ChangeShapes Go.WideShapes Go.ChangeAt Go.RowKit Go.Joins Go.Deep
open Ft (V3 vV okV ValsAt inlineB legalB packF codeF typedF allF oneF fitsF belowW allAt headF fitsL fitsV unpackF)
variable {v:V3}
structure DocEnd (d:List UInt8) (p w:Int) (v:V3):Prop where
 isw:isW w=true
 len:(d.length:Int)=p+w+2
 p0:0≤p
 wid:d[d.length - 1]? = some (UInt8.ofNat w.toNat)
 tag:d[d.length - 2]? = some (cE w v)
 num:k7 d p w=(Y5 p w v,0)
theorem doc_end {b:List UInt8} (hb:b.length≤1048576) (hn:aN b.length v):DocEnd (aQ b v) ((b.length:Int)+j8 b (oneF v.1 v.2.1 v.2.2 b.length 0)) (oneF v.1 v.2.1 v.2.2 b.length 0) v:=by
 obtain⟨hw,hf⟩:=Q5 hb hn;have hl:=dB hw;have hd:aQ b v=b++[kD (j8 b (oneF v.1 v.2.1 v.2.2 b.length 0)),k8 (oneF v.1 v.2.1 v.2.2 b.length 0).toNat (Y5 ((b.length:Int)+j8 b (oneF v.1 v.2.1 v.2.2 b.length 0)) (oneF v.1 v.2.1 v.2.2 b.length 0) v).toNat,[cE (oneF v.1 v.2.1 v.2.2 b.length 0) v,UInt8.ofNat (oneF v.1 v.2.1 v.2.2 b.length 0).toNat]].flatten:=rfl;have hr:=pX hw hn hf;generalize aQ b v=d at *;generalize oneF v.1 v.2.1 v.2.2 b.length 0=w at *;have hp:=zA hw;have hd2:d=(b++kD (j8 b w))++k8 w.toNat (Y5 ((b.length:Int)+j8 b w) w v).toNat++[cE w v,UInt8.ofNat w.toNat]:=by rw[hd];simp
 have kE:((b++kD (j8 b w))++k8 w.toNat (Y5 ((b.length:Int)+j8 b w) w v).toNat).length=d.length - 2:=by
  have h2:=congrArg List.length hd2;simp only[List.length_append,List.length_cons,List.length_nil] at h2⊢;omega
 refine⟨hw,by rw[hl],by omega,?_,?_,?_⟩
 ·obtain⟨n,hn1⟩:∃n,d.length - 1=n:=⟨_,rfl⟩;rw[hn1,hd2,List.getElem?_append_right zo,kE,show n - (d.length - 2)=1 by omega];rfl
 ·obtain⟨n,hn1⟩:∃n,d.length - 2=n:=⟨_,rfl⟩;rw[hn1,hd2,List.getElem?_append_right zo,kE,show n - (d.length - 2)=0 by omega];rfl
 exact ZE hw hd2 (by rw[List.length_append,jT];omega) hr.1 hr.2
theorem xP {w:Int} (hw:isW w=true) (hl:kG v=0):unpackF (cE w v).toNat=(v.1,if inlineB v.1 then w else v.2.1,0):=cX (x:=w) (v:=v) hw hl
end Go.Proofs.YtdjoffgkndncfaaGreat
namespace Go.Proofs.YtdjoffgkndncfaaGreat
open Go.Proofs.Tryz
open Go Go.ChangeShapes Go.WideShapes Go.ChangeAt Go.RowKit Go.Joins Go.Deep
open Ft (V3 vV okV ValsAt inlineB legalB packF codeF typedF allF)
section
variable {B:Nat} {q:zR} {jB jD:Int} {κ0:Nat→Nat} {x:BS} {w w0:World} {Kp:List (Nat × Obj)}
theorem Env.keysGet (k:ByteArray) (h:Env B q jB jD w0 κ0 Kp x w):Calls prog 185 #[jI q.k,.string k] w λr w'=>r=.returned (.tuple #[.int .i64 (qN x.keys k).1,.bool (qN x.keys k).2])∧jC w w':=by
 obtain⟨κ,hb,_⟩:=h;exact tH k hb.keys
theorem Env.textsGet (k:ByteArray) (h:Env B q jB jD w0 κ0 Kp x w):Calls prog 185 #[jI q.t,.string k] w λr w'=>r=.returned (.tuple #[.int .i64 (qN x.texts k).1,.bool (qN x.texts k).2])∧jC w w':=by
 obtain⟨κ,hb,_⟩:=h;exact tH k hb.texts
theorem Env.listsGet (k:ByteArray) (h:Env B q jB jD w0 κ0 Kp x w):Calls prog 185 #[jI q.l,.string k] w λr w'=>r=.returned (.tuple #[.int .i64 (qN x.lists k).1,.bool (qN x.lists k).2])∧jC w w':=by
 obtain⟨κ,hb,_⟩:=h;exact tH k hb.lists
theorem Env.onE (flag:Int) (h:Env B q jB jD w0 κ0 Kp x w):Calls prog 186 #[.pointer (some ⟨q.p,3,none⟩),.int .i64 flag] w λr w'=>r=.returned (.bool (onF jD flag))∧w'=w:=by
 obtain⟨κ,hb,_⟩:=h;exact on_any flag hb
theorem Env.keysPut (k:ByteArray) (a:Int) (hl:x.keys.length≤1048576) (h:Env B q jB jD w0 κ0 Kp x w):Calls prog 187 #[jI q.k,.string k,.int .i64 a] w λr w'=>r=.returned (.int .i64 (ZC k a x.keys))∧Env B q jB jD w0 κ0 Kp {x with keys:=qD k a x.keys} w':=
 h.call λκ hb hz=>(mW k a hb.keys hb.ok.keys).mono λr w' hr=>⟨hr.1,hb.keys_step (Nat.le_trans (KW k a x.keys) zo) (tC hb.ok.okK) hr.2⟩
theorem Env.textsPut (k:ByteArray) (a:Int) (hl:x.texts.length≤1048576) (h:Env B q jB jD w0 κ0 Kp x w):Calls prog 187 #[jI q.t,.string k,.int .i64 a] w λr w'=>r=.returned (.int .i64 (ZC k a x.texts))∧Env B q jB jD w0 κ0 Kp {x with texts:=qD k a x.texts} w':=
 h.call λκ hb hz=>(mW k a hb.texts hb.ok.texts).mono λr w' hr=>⟨hr.1,hb.texts_step (Nat.le_trans (KW k a x.texts) zo) (tC hb.ok.okT) hr.2⟩
theorem Env.listsPut (k:ByteArray) (a:Int) (hl:x.lists.length≤1048576) (h:Env B q jB jD w0 κ0 Kp x w):Calls prog 187 #[jI q.l,.string k,.int .i64 a] w λr w'=>r=.returned (.int .i64 (ZC k a x.lists))∧Env B q jB jD w0 κ0 Kp {x with lists:=qD k a x.lists} w':=
 h.call λκ hb hz=>(mW k a hb.lists hb.ok.lists).mono λr w' hr=>⟨hr.1,hb.lists_step (Nat.le_trans (KW k a x.lists) zo) hr.2⟩
theorem Env.text2 (a b:ByteArray) (hss:yY [a,b]≤1073741824) (h:Env B q jB jD w0 κ0 Kp x w):Calls prog 104 #[jI q.b,.slice (some ⟨w.heap.size,0,none⟩) 2 2] (w.alloc (.cells #[.string a,.string b] 9)) λr w'=>r=.returned (.tuple #[])∧Env B q jB jD w0 κ0 Kp {x with s:=kQ jB (jS [a,b]) x.s} w':=
 h.callw λκ hb hz=>by
  obtain⟨h0,o,h1,h2⟩:=hb.buf;refine (LS x.s a b _ rfl h1 (Nat.zero_le _) hb.ok.len hb.ok.m1 hss).mono λr w' hr=>⟨hr.1,?_⟩;obtain⟨S',k1,k2,k3⟩:=fU.turn (S:=λk=>κ k=2) h0 h1 h2 hr.2;exact hb.buf_step (bH hb.ok.len) k1 k2 k3
theorem Env.name (k:ByteArray) (a:Int) {w':World} (h:Env B q jB jD w0 κ0 Kp x w) (hb':oB w' q.m (KT x.names++[(a,.string k)])) (ho:w'.os=w.os) (ht:w'.tape=w.tape) (hp:w'.output=w.output) (hs:w'.heap.size=w.heap.size) (hk:∀j,j≠q.m→w'.heap[j]? = w.heap[j]?) :
 Env B q jB jD w0 κ0 Kp {x with names:=x.names++[(a,k)]} w':=
 h.after λκ hb hz=>hb.names_step (by simpa [KT] using hb') ⟨ho,ht,hp,Nat.le_of_eq hs.symm,λj _ hne=>hk j hne⟩
theorem Env.namesAt (h:Env B q jB jD w0 κ0 Kp x w):oB w q.m (KT x.names):=by
 obtain⟨κ,hb,_⟩:=h;exact hb.names.2
end
theorem nA {n:Int}:∀{l:List (Int × ByteArray)} (i:Nat),(∀z∈l,z.1 < n)→V1 n (KT l) i=none
 | [],_,_=>rfl
 | z::r,i,h=>by
  have h1:=h z List.mem_cons_self;show (if n=z.1 then _ else V1 n (KT r) (i+1))=none;rw[if_neg zo];exact nA (i+1) λz hz=>h z (List.mem_cons_of_mem _ hz)
theorem xQ {B:Nat} {q:zR} {jB jD:Int} {κ:Nat→Nat} {x:BS} {w:World} (k:ByteArray) (hk:k.size≤1048576) (hg:x.Good) (h:Bd B q jB jD κ x w):Calls prog 131 #[jI q.p,.string k] w λr w'=>r=.returned (vV (x.put jB (onF jD 1) k).1)∧kL B q jB jD κ (x.put jB (onF jD 1) k).2 w w':=by
 have HG:=zh hg;have HE:Hid (Env B q jB jD w κ [(w.heap.size,Obj.cells #[.int .i64 0,.int .i64 0,.int .u64 0] 135 (0,0))] x (w.alloc (.cells #[.int .i64 0,.int .i64 0,.int .u64 0] 135))):=(Env.start h).add _;have HSS:Hid (yY [k,⟨#[0]⟩]≤1073741824):=by have e:(⟨#[0]⟩:ByteArray).size=1:=rfl;show _≤_;simp[yY,e];omega
 have HM:Hid ((w.heap.size,Obj.cells #[.int .i64 0,.int .i64 0,.int .u64 0] 135 (0,0))∈([(w.heap.size,Obj.cells #[.int .i64 0,.int .i64 0,.int .u64 0] 135 (0,0))]:List (Nat × Obj))):=List.mem_cons_self;clear h hg hk;go_enter func131,ntmps131;go_wp2_with fail;generalize w.alloc _=w1 at *;refine jQ [5] (vR B q jB jD w κ [(w.heap.size,Obj.cells #[.int .i64 0,.int .i64 0,.int .u64 0] 135 (0,0))] [x] (x.fail (vD k))) (λ_ w w'=>jC w w') ((λp (_:Nat→Value)=>(λ_ _ _=>True) p)) [[],[0],[0,1],[],[3],[0,1,2,3,4]] [(7,0),(8,1),(9,2),(10,3),(11,4),(12,5)]
  [IsP (jI q.p),IsP (jI q.p),IsP (jI q.p),IsP (.string k),IsP (.int .i64 (vD k)),IsP (.tuple #[])]
  sqc zk (vR.grew) (HE.grew (jC.refl _).drew) zk zk ⟨jG,jG,jG,jG,jG,jG,trivial⟩ rfl ?_ ?_
 ·intro y w2 hW hF;simp only[yR,IsP,Nat.reduceAdd,List.length_cons,List.length_nil] at hF hW;simp only[jF,Act.put,zq];simp only[hF];clear hF;have HE1:Hid (Env B q jB jD w κ [(w.heap.size,Obj.cells #[.int .i64 0,.int .i64 0,.int .u64 0] 135 (0,0))] (x.fail (vD k)) w2):=hW;have c2:=HE1.at2;by_cases hf:(x.fail (vD k)).e=0
  ·have hx0:x.e=0∧vD k=0:=by
    have hh:zO x.e (vD k)=0:=hf;unfold zO at hh;split at hh
    ·exact⟨by assumption,hh⟩
    exact absurd hh (by assumption)
   have hxx:x.fail (vD k)=x:=by unfold BS.fail zO;rw[if_pos hx0.1,hx0.2,← hx0.1]
   have HE2:Hid (Env B q jB jD w κ [(w.heap.size,Obj.cells #[.int .i64 0,.int .i64 0,.int .u64 0] 135 (0,0))] x w2):=by have h:=HE1.out;rw[hxx] at h;exact h
   have HX0:=zh hx0;rw[hf] at c2;have HXX:=zh hxx;have HKL:Hid (x.keys.length≤1048576):=Nat.le_trans (HG.ks hx0.1) HE2.len;have HLN:Hid (x.s.1.length≤1048576):=HE2.len;have HNEW:Hid (V1 (x.s.1.length:Int) (KT x.names) 0=none):=nA 0 (HG.nm hx0.1)
   have HPU:Hid (∀b,(qN x.keys k).2=b→x.put jB (onF jD 1) k=if b && (onF jD 1) then ((4,1,(qN x.keys k).1),x) else ((4,1,(x.s.1.length:Int)),({x with s:=kQ jB (jS [k,⟨#[0]⟩]) x.s,keys:=qD k (x.s.1.length:Int) x.keys,names:=x.names++[((x.s.1.length:Int),k)]}:BS).fail (kQ jB (jS [k,⟨#[0]⟩]) x.s).2)):=by
    show ∀b,_→_=_;intro b hb;unfold BS.put;rw[hxx];simp only[hx0.1,ne_eq,not_true_eq_false,if_false,hb];split
    ·rfl
    simp only[BS.fail,zO,hx0.1,if_true]
   clear hf hx0 hxx HE1;have c4:=HE2.at4;go_wp2_with fail;refine (HE2.keysGet k).mono ?_;rintro r w3 ⟨rfl,hg3⟩;have HE3:=zh (HE2.grew hg3);clear hg3 c4 c2;have HGO:=zh (iW (k:=k) HE3.ok.okK);have HPB:=zh (HPU.out _ rfl);generalize qN x.keys k=g at *;obtain⟨ga,gb⟩:=g
   cases gb with
   | false=>
    have HP:Hid (x.put jB (onF jD 1) k=((4,1,(x.s.1.length:Int)),({x with s:=kQ jB (jS [k,⟨#[0]⟩]) x.s,keys:=qD k (x.s.1.length:Int) x.keys,names:=x.names++[((x.s.1.length:Int),k)]}:BS).fail (kQ jB (jS [k,⟨#[0]⟩]) x.s).2)):=HPB.out;have c0:=HE3.at0;go_wp2_with fail;refine HE3.buflen.mono ?_;rintro r w9 ⟨rfl,hw9⟩;obtain rfl:w3=w9:=hw9.symm;go_wp2_with fail;refine (HE3.text2 k ⟨#[0]⟩ HSS.out).mono ?_;rintro r w4 ⟨rfl,he⟩;have HE4:=zh he;clear he c0;have c4:=HE4.at4;go_wp2_with fail;refine (HE4.keysPut k (x.s.1.length:Int) (show ({x with s:=kQ jB (jS [k,⟨#[0]⟩]) x.s}:BS).keys.length≤1048576 from HKL.out)).mono ?_;rintro r w5 ⟨rfl,he⟩;have HE5:=zh he;clear he c4;have c7:=HE5.at7;have hwa:=VS _ HLN.out;go_wp2_with (refine gR _ underlying108 underlying22 rfl _ _ _ rfl q.m (KT x.names) rfl HE5.namesAt (x.s.1.length:Int) rfl _ rfl HNEW.out ?_;intro w6 hb' ho ht hp hs hk;have HE6:=zh (HE5.name k (x.s.1.length:Int) hb' ho ht hp hs hk);clear hb' ho ht hp hs hk c7);refine jQ [9] (vR B q jB jD w κ [(w.heap.size,Obj.cells #[.int .i64 0,.int .i64 0,.int .u64 0] 135 (0,0))] [{x with s:=kQ jB (jS [k,⟨#[0]⟩]) x.s,keys:=qD k (x.s.1.length:Int) x.keys,names:=x.names++[((x.s.1.length:Int),k)]}] (({x with s:=kQ jB (jS [k,⟨#[0]⟩]) x.s,keys:=qD k (x.s.1.length:Int) x.keys,names:=x.names++[((x.s.1.length:Int),k)]}:BS).fail (kQ jB (jS [k,⟨#[0]⟩]) x.s).2)) (λ_ w w'=>jC w w') ((λp (_:Nat→Value)=>(λ_ _ _=>True) p)) [[],[0],[0,1],[],[3],[3,4],[3,4,5],[3,4,5,6],[3,4,5,6,7],[0,1,2,3,4,5,6,7,8]] [(69,0),(70,1),(71,2),(72,3),(73,4),(74,5),(75,6),(76,7),(77,8),(78,9)]
     [IsP (jI q.p),IsP (jI q.p),IsP (jI q.p),IsP (jI q.p),IsP (jI q.p),IsP (jI q.p),IsP (jI q.p),IsP (jI q.b),IsP (.int .i64 (kQ jB (jS [k,⟨#[0]⟩]) x.s).2),IsP (.tuple #[])]
     sqc zk (vR.grew) (HE6.grew (jC.refl _).drew) zk zk ⟨jG,jG,jG,jG,jG,jG,jG,jG,jG,jG,trivial⟩ rfl ?_ ?_
    ·exact zb61
    refine⟨zqd,zqd,zqd,zqd,zqd,zqd,zqd,?_⟩;constructor
    ·exact zb60
    constructor
    ·exact zb62
    constructor
    ·exact zb63
    trivial
   | true=>
    cases ho:onF jD 1 with
    | false=>
     have HP:Hid (x.put jB (onF jD 1) k=((4,1,(x.s.1.length:Int)),({x with s:=kQ jB (jS [k,⟨#[0]⟩]) x.s,keys:=qD k (x.s.1.length:Int) x.keys,names:=x.names++[((x.s.1.length:Int),k)]}:BS).fail (kQ jB (jS [k,⟨#[0]⟩]) x.s).2)):=(by have h:=HPB.out;rw[ho] at h;rw[ho];exact h);have HO:=zh ho;clear ho;go_wp2_with fail;refine (HE3.onE 1).mono ?_;rw[HO];rintro r w9 ⟨rfl,hw9⟩;obtain rfl:w3=w9:=hw9.symm;have c0:=HE3.at0;go_wp2_with fail;refine HE3.buflen.mono ?_;rintro r w9 ⟨rfl,hw9⟩;obtain rfl:w3=w9:=hw9.symm;go_wp2_with fail;refine (HE3.text2 k ⟨#[0]⟩ HSS.out).mono ?_;rintro r w4 ⟨rfl,he⟩;have HE4:=zh he;clear he c0;have c4:=HE4.at4;go_wp2_with fail;refine (HE4.keysPut k (x.s.1.length:Int) (show ({x with s:=kQ jB (jS [k,⟨#[0]⟩]) x.s}:BS).keys.length≤1048576 from HKL.out)).mono ?_;rintro r w5 ⟨rfl,he⟩;have HE5:=zh he;clear he c4;have c7:=HE5.at7;have hwa:=VS _ HLN.out;go_wp2_with (refine gR _ underlying108 underlying22 rfl _ _ _ rfl q.m (KT x.names) rfl HE5.namesAt (x.s.1.length:Int) rfl _ rfl HNEW.out ?_;intro w6 hb' ho ht hp hs hk;have HE6:=zh (HE5.name k (x.s.1.length:Int) hb' ho ht hp hs hk);clear hb' ho ht hp hs hk c7);refine jQ [9] (vR B q jB jD w κ [(w.heap.size,Obj.cells #[.int .i64 0,.int .i64 0,.int .u64 0] 135 (0,0))] [{x with s:=kQ jB (jS [k,⟨#[0]⟩]) x.s,keys:=qD k (x.s.1.length:Int) x.keys,names:=x.names++[((x.s.1.length:Int),k)]}] (({x with s:=kQ jB (jS [k,⟨#[0]⟩]) x.s,keys:=qD k (x.s.1.length:Int) x.keys,names:=x.names++[((x.s.1.length:Int),k)]}:BS).fail (kQ jB (jS [k,⟨#[0]⟩]) x.s).2)) (λ_ w w'=>jC w w') ((λp (_:Nat→Value)=>(λ_ _ _=>True) p)) [[],[0],[0,1],[],[3],[3,4],[3,4,5],[3,4,5,6],[3,4,5,6,7],[0,1,2,3,4,5,6,7,8]] [(69,0),(70,1),(71,2),(72,3),(73,4),(74,5),(75,6),(76,7),(77,8),(78,9)]
      [IsP (jI q.p),IsP (jI q.p),IsP (jI q.p),IsP (jI q.p),IsP (jI q.p),IsP (jI q.p),IsP (jI q.p),IsP (jI q.b),IsP (.int .i64 (kQ jB (jS [k,⟨#[0]⟩]) x.s).2),IsP (.tuple #[])]
      sqc zk (vR.grew) (HE6.grew (jC.refl _).drew) zk zk ⟨jG,jG,jG,jG,jG,jG,jG,jG,jG,jG,trivial⟩ rfl ?_ ?_
     ·exact zb61
     refine⟨zqd,zqd,zqd,zqd,zqd,zqd,zqd,?_⟩;constructor
     ·exact zb60
     constructor
     ·exact zb62
     constructor
     ·exact zb63
     trivial
    | true=>
     have HP:Hid (x.put jB (onF jD 1) k=((4,1,ga),x)):=(by have h:=HPB.out;rw[ho] at h;rw[ho];exact h);have HO:=zh ho;clear ho;go_wp2_with fail;refine (HE3.onE 1).mono ?_;rw[HO];rintro r w9 ⟨rfl,hw9⟩;obtain rfl:w3=w9:=hw9.symm;have HE8:=HE3;have hwa:IntKind.u64.wrap ga=ga:=(by have h:=HGO.out;simp[IntKind.wrap,IntKind.bits,IntKind.signed];omega);have jK:=HE8.kp HM.out;obtain⟨c0,c1,c2⟩:=sqr3 jK;have f0:=jE jK 0;have f1:=jE jK 1;have f2:=jE jK 2;clear jK;go_wp2_with fail;refine bodyPost_ret (v:=vV (4,1,ga)) (by simp[results,results131,go_sem,c0,c1,c2,vV]) rfl ?_;exact⟨by rw[HP],by rw[HP];exact HE8.told HM.out (Nat.le_refl _) (Moved.setCell (p:=⟨w.heap.size,2,none⟩) (Moved.setCell (p:=⟨w.heap.size,1,none⟩) (Moved.setCell (p:=⟨w.heap.size,0,none⟩) (Moved.refl (λk=>k=w.heap.size) _) (λ_=>rfl) _) (λ_=>rfl) _) (λ_=>rfl) _)⟩
  have HP:Hid (x.put jB (onF jD 1) k=((0,0,0),x.fail (vD k))):=by show _=_;unfold BS.put;simp only[ne_eq,hf,not_false_eq_true,if_true]
  have HE8:=zh HE1.out;generalize hex:(x.fail (vD k)).e=ex at *;have hne:¬ex=0:=hf;clear hf hex HE1;have jK:=HE8.kp HM.out;obtain⟨c0,c1,c2⟩:=sqr3 jK;have f0:=jE jK 0;have f1:=jE jK 1;have f2:=jE jK 2;clear jK;go_wp2_with fail;refine bodyPost_ret (v:=vV (0,0,0)) (by simp[results,results131,go_sem,c0,c1,c2,vV]) rfl ?_;exact⟨by rw[HP],by rw[HP];exact HE8.told HM.out (Nat.le_refl _) (Moved.setCell (p:=⟨w.heap.size,2,none⟩) (Moved.setCell (p:=⟨w.heap.size,1,none⟩) (Moved.setCell (p:=⟨w.heap.size,0,none⟩) (Moved.refl (λk=>k=w.heap.size) _) (λ_=>rfl) _) (λ_=>rfl) _) (λ_=>rfl) _)⟩
 refine⟨zqd,zqd,zqd,zqd,?_⟩;constructor
 ·refine jP 0 0 ?_;intro y w2 p hlo hhi hW hD K hK;simp only[kV,zq4,zq5,IsP] at hD;generalize hAA:jF y _ _=AA at hK⊢;simp only[jF,Act.put,zq,IsP] at hAA;subst hAA;simp only[zq4,zq5,IsP] at hK;simp only[hD] at hK⊢;clear hD;refine jN ?_;go_simp;refine (lT k w2).mono ?_;rintro r w3 ⟨rfl,hw3⟩;exact hK _ _ _ rfl (by rw[← hw3];exact jC.refl _) rfl
 constructor
 ·exact zb63
 trivial
end Go.Proofs.YtdjoffgkndncfaaGreat
