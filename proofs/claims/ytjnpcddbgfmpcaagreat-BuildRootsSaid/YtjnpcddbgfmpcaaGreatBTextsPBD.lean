/-
  Texts of the proof.
-/
import Derived.Test.YtjnpcddbgfmpcaaGreatBTextsPAK
import Derived.Test.YtjnpcddbgfmpcaaGreatBTextsPAY
import Derived.Test.YtjnpcddbgfmpcaaGreatBTextsPBB
import Derived.Test.YtjnpcddbgfmpcaaGreatBTextsPBC
set_option linter.unusedVariables false
set_option linter.unusedSimpArgs false
set_option maxHeartbeats 32000000
set_option maxRecDepth 100000
namespace Go.Proofs.YtjnpcddbgfmpcaaGreat
open Go.Proofs.Tryz
open Go Go.ChangeShapes Go.WideShapes Go.ChangeAt Go.RowKit Go.Joins Go.Deep
open Go.Proofs.YtjnpcddbgfmpcaaGreat.Ft (V3 vV okV ValsAt inlineB legalB packF codeF typedF allF oneF)
structure BS where
 s:St
 e:Int
 stk:List V3
 keys:zQ
 texts:zQ
 lists:zQ
 names:List (Int × ByteArray)
 vals:List V3
def VC (n:Nat):Int:=if n+1≤65536 then 0 else 5
def VD (l:List V3) (v:V3):List V3:=if l.length+1≤65536 then l++[v] else l
def onF (flags flag:Int):Bool:=bits .and .i64 flags flag != 0
namespace BS
def fail (e:Int) (x:BS):BS:={x with e:=kF x.e e}
def push (v:V3) (x:BS):BS:=
 if kF x.e x.s.2=0 then (if x.stk.length+1≤65536 then {x with e:=0,stk:=x.stk++[v]} else {x with e:=5}) else {x with e:=kF x.e x.s.2}
end BS
def zD (b:Bool):V3:=(26,1,if b then 1 else 0)
def qO (n:Int):Int:=if -128≤n∧n≤127 then 1 else if -32768≤n∧n≤32767 then 2 else if -2147483648≤n∧n≤2147483647 then 4 else 8
def yG (n:Int):V3:=(1,qO n,n % 18446744073709551616)
def yJ (u:Int):V3:=(2,Ft.widthOf u.toNat,u)
namespace BS
def inline (v:V3) (x:BS):BS:=if x.e=0 then x.push v else x
def apart (most t:Int) (v:V3) (x:BS):BS:=
 if x.e=0 then
  let s1:=jH most v.2.1 x.s
  ({x with s:=jW most v.2.1 (kO v.2.2 v.2.1) s1}:BS).push (t,v.2.1,(s1.1.length:Int))
 else x
def put (most:Int) (share:Bool) (k:ByteArray) (x:BS):V3 × BS:=
 let x1:=x.fail (JQ k)
 if x1.e≠0 then ((0,0,0),x1) else
 let g:=yF x.keys k
 if g.2 && share then ((4,1,g.1),x1) else
 let at_:Int:=x.s.1.length
 let s2:=j7 most (jS [k,⟨#[0]⟩]) x.s
 ((4,1,at_),{x1 with s:=s2,keys:=zE k at_ x.keys,names:=x.names++[(at_,k)],e:=s2.2})
def key (most:Int) (share:Bool) (k:ByteArray) (x:BS):BS:=if x.e=0 then (x.put most share k).2.push (x.put most share k).1 else x
def text (most t:Int) (k behind:ByteArray) (x:BS):BS:=
 let w:=Ft.widthOf k.size
 let s1:=jW most w k.size (jH most w x.s)
 let at_:Int:=s1.1.length
 ({x with s:=j7 most (jS [k,behind]) s1,texts:=if t=5 then zE k at_ x.texts else x.texts}:BS).push (t,w,at_)
def str (most:Int) (share:Bool) (k:ByteArray) (x:BS):BS:=
 if x.e=0 then
  let g:=yF x.texts k
  if g.2 && share then x.push (5,Ft.widthOf k.size,g.1) else x.text most 5 k ⟨#[0]⟩
 else x
def blob (most:Int) (k:ByteArray) (x:BS):BS:=if x.e=0 then x.text most 25 k ByteArray.empty else x
end BS
def zC (most elem many:Int) (l:List V3) (s:St):(V3 × Int) × St:=
 if elem = -1 then k9 most jZ true true 10 0 l s else k9 most (j5 elem) (decide (many=0)) false (typedF elem many).1 0 l s
namespace BS
def vector (most elem many:Int) (l:List V3) (x:BS):BS:=
 if x.e=0 then
  let q:=zC most elem many l x.s
  (({x with s:=q.2}:BS).fail q.1.2).push q.1.1
 else x
def putAll (most:Int) (share:Bool):List ByteArray→BS→List V3 × BS
 | [],x=>([],x)
 | k::r,x=>((x.put most share k).1::(putAll most share r (x.put most share k).2).1,(putAll most share r (x.put most share k).2).2)
def keyVec (most:Int) (share:Bool) (l:List ByteArray) (x:BS):BS:=
 if x.e=0 then (x.putAll most share l).2.vector most 4 0 (x.putAll most share l).1 else x
def fixed (most elem:Int) (l:List V3) (x:BS):BS:=
 if x.e=0 then (if l.length < 2∨4 < l.length then x.fail 2 else x.vector most elem l.length l) else x
def endVec (most start:Int) (x:BS):BS:=
 if x.e=0 then
  (if 0≤start∧start≤x.stk.length then ({x with stk:=x.stk.take start.toNat}:BS).vector most (-1) 0 (x.stk.drop start.toNat) else x.fail 2)
 else x
end BS
def JK (names:List (Int × ByteArray)) (n:Int):ByteArray:=match names.find? (fun q=>q.1=n) with | some q=>q.2 | none=>ByteArray.empty
def kA (names:List (Int × ByteArray)):List V3→List (ByteArray × V3 × V3)
 | k::v::r=>(JK names k.2.2,k,v)::kA names r
 | _=>[]
def z7:List V3→Bool
 | k::_::r=>decide (k.1=4) && z7 r
 | []=>true
 | _=>false
def k7 (l:List ByteArray):ByteArray:=l.foldl (fun a k=>a++(k++⟨#[0]⟩)) ByteArray.empty
namespace BS
def table (most:Int) (share:Bool) (list:ByteArray) (keys vals:List V3) (x:BS):BS:=
 let g:=yF x.lists list
 let x1:BS:=if g.2 && share then x else
  let q:=zC most 4 0 keys x.s
  ({x with s:=q.2,e:=kF x.e q.1.2,lists:=zE list x.vals.length x.lists,vals:=x.vals++[q.1.1]}:BS)
 let i:Int:=if g.2 && share then g.1 else x.vals.length
 if x1.e=0 then
  let q:=yY most (x1.vals.getD i.toNat (0,0,0)) vals x1.s
  (({x1 with s:=q.2}:BS).fail q.1.2).push q.1.1
 else x1
def endMap (most:Int) (share:Bool) (start:Int) (x:BS):BS:=
 if x.e=0 then
  (if 0≤start∧start≤x.stk.length then
   let l:=x.stk.drop start.toNat
   if z7 l then
    let es:=kA x.names l
    if (es.map (·.1)).Nodup then
     ({x with stk:=x.stk.take start.toNat}:BS).table most share (k7 ((y1 es).map (·.1))) ((y1 es).map (·.2.1)) ((y1 es).map (·.2.2))
    else x.fail 71
   else x.fail 140
  else x.fail 2)
 else x
def finish (most:Int) (x:BS):(List UInt8 × Int) × BS:=
 let x0:=if x.stk.length≠1 then x.fail 140 else x
 if x0.e≠0 then (([],x0.e),x0) else
 let v:=x.stk.getD 0 (0,0,0)
 let w:=oneF v.1 v.2.1 v.2.2 x.s.1.length 0
 let s1:=jH most w x.s
 let own:=if inlineB v.1 then w else v.2.1
 let n:=if inlineB v.1 then kO v.2.2 w else IntKind.u64.wrap ((s1.1.length:Int) - v.2.2)
 let s2:=jW most w n s1
 let s3:=j7 most [UInt8.ofNat (packF v.1 own).1.toNat,UInt8.ofNat w.toNat] s2
 ((ZZ s3,s3.2),({x0 with s:=s3}:BS).fail s3.2 |>.fail 140)
end BS
structure BS.Good (x:BS):Prop where
 s0:x.e=0→x.s.2=0
 nm:x.e=0→∀z∈x.names,z.1 < x.s.1.length
 ks:x.e=0→x.keys.length≤x.s.1.length
 ts:x.e=0→x.texts.length≤x.s.1.length
 ls:x.e=0→x.lists.length≤x.s.1.length
 vs:x.e=0→x.vals.length≤x.s.1.length
 ix:x.e=0→∀z∈x.lists,0≤z.2∧z.2 < x.vals.length
 nz:x.e=0→∀z∈x.names,z.2.size≤x.s.1.length
theorem mX {α:Type} {l:List α} {i:Nat} {x z:α} (h:z∈JH l i x):z∈l∨z=x:=by
 unfold JH at h
 rcases List.mem_append.1 h with h|h
 ·exact .inl (List.mem_of_mem_take h)
 ·rcases List.mem_cons.1 h with h|h
  ·exact .inr h
  ·exact .inl (List.mem_of_mem_drop h)
theorem dS {k:ByteArray} {a:Int} {l:zQ} {z:ByteArray × Int} (h:z∈zE k a l):z∈l∨(z=(k,a)∧0≤a∧a≤9007199254740991):=by
 unfold zE at h
 split at h
 ·exact .inl h
 ·rename_i hn
  split at h
  ·exact .inl h
  ·rcases mX h with h|h
   ·exact .inl h
   ·exact .inr ⟨h,by omega,by omega⟩
theorem cA {k:ByteArray} {a:Int} {l:zQ} (h:∀z∈l,0≤z.2∧z.2≤9007199254740991):∀z∈zE k a l,0≤z.2∧z.2≤9007199254740991:=fun z hz=>by
 rcases dS hz with h1|⟨rfl,h2,h3⟩
 ·exact h z h1
 ·exact⟨h2,h3⟩
theorem QO {k:ByteArray} {l:zQ} (h:∀z∈l,0≤z.2∧z.2≤9007199254740991):0≤(yF l k).1∧(yF l k).1≤9007199254740991:=by
 unfold yF
 split
 ·rename_i hh
  have hlt:=bW hh
  have hg:(J9 l).getD (yH l k) 0=(l[yH l k]).2:=by simp[J9,List.getD_eq_getElem?_getD,hlt]
  dsimp only
  rw[hg]
  exact h _ (List.getElem_mem hlt)
 ·simp
end Go.Proofs.YtjnpcddbgfmpcaaGreat
namespace Go.Proofs.YtjnpcddbgfmpcaaGreat
open Go.Proofs.Tryz
open Go Go.ChangeShapes Go.WideShapes Go.ChangeAt Go.RowKit Go.Joins Go.Deep
open Go.Proofs.YtjnpcddbgfmpcaaGreat.Ft (V3 vV okV ValsAt inlineB legalB packF codeF typedF allF)
def VE (w:World) (B:Nat) (v:Value) (L:List Int):Prop:=w.ownsRow B 3 1 v L.length (L.map (Value.int .i64))
def zO (w:World) (p:Nat) (S:Nat→Prop) (l:zQ):Prop:=
 S p∧∃kv av,w.heap[p]? = some (.cells #[kv,av,.bool true] 143 (0,0))∧yR w 0 kv (J4 l)∧VE w 0 av (J9 l)∧(∀g,kv.ownBlock=some g→S g)∧∀g,av.ownBlock=some g→S g
section
variable {w w':World} {p:Nat} {S S' T:Nat→Prop} {l:zQ}
theorem zO.kept (h:zO w p S l) (hm:Moved T w w') (hd:∀k,S k→¬T k):zO w' p S l:=by
 obtain⟨h0,kv,av,h1,h2,h3,h4,h5⟩:=h
 exact⟨h0,kv,av,hm.heap h1 (hd _ h0),hm.owns h2 (fun k hk=>hd k (h4 k hk)),hm.owns h3 (fun k hk=>hd k (h5 k hk)),h4,h5⟩
theorem zO.mono (h:zO w p S l) (hs:∀k,k < w.heap.size→S k→S' k):zO w p S' l:=by
 obtain⟨h0,kv,av,h1,h2,h3,h4,h5⟩:=h
 exact⟨hs _ (Array.getElem?_eq_some_iff.1 h1).1 h0,kv,av,h1,h2,h3,fun g hg=>hs g (vH h2 hg) (h4 g hg),fun g hg=>hs g (vH h3 hg) (h5 g hg)⟩
theorem zO.grew (h:zO w p S l) (hg:jB w w'):zO w' p S l:=h.kept (Moved.of_grew (S:=fun _=>False) hg) (fun _ _ h=>h)
theorem cB {B:Nat} {e:TypeId} {a:Option Addr} {n c:Nat} {xs:List Value} (h:w.ownsRow B e 1 (.slice a n c) n xs) {i:Nat} {x:Value} (hx:xs[i]? = some x):∃g,a=some ⟨g,0,none⟩∧w.cell? ⟨g,i,none⟩=some x:=by
 rcases h.2 with ⟨e,hn⟩|⟨g,cap,cur,e,_⟩
 ·have h1:=h.1
  have:=(List.getElem?_eq_some_iff.1 hx).1
  omega
 ·injection e with e1 e2 e3
  subst e1
  have:=World.ownsRow.cells h (g:=g) rfl i x hx
  rw[add0,Nat.zero_add] at this
  exact⟨g,rfl,this⟩
end
theorem JL {w:World} {p:Nat} {S:Nat→Prop} {l:zQ} (h:zO w p S l):Calls prog 107 #[jF p] w fun r w'=>r=.returned (.bool false)∧w'=w:=by
 obtain⟨_,kv,av,h1,_⟩:=h
 obtain⟨c0,c1,c2⟩:=vZ h1
 clear h1
 go_enter func107,ntmps107
 go_wp2
 go_ret
 exact⟨rfl,rfl⟩
theorem VF (w:World):Calls prog 33 #[] w fun r w'=>r=.returned (jF w.heap.size)∧zO w' w.heap.size (fun k=>k=w.heap.size) []∧jB w w'∧w'.heap.size=w.heap.size+1:=by
 go_enter func33,ntmps33
 go_wp2
 go_ret
 exact⟨rfl,⟨rfl,_,_,heap_alloc_new _ _,World.ownsRow_nil _ _ _ _,World.ownsRow_nil _ _ _ _,fun g hg=>(by cases hg),fun g hg=>(by cases hg)⟩,(jB.refl w).alloc _,World.size_alloc _ _⟩
theorem YU {w:World} {p:Nat} {S:Nat→Prop} {l:zQ} (k:ByteArray) (h:zO w p S l) :
 Calls prog 108 #[jF p,.string k] w fun r w'=>r=.returned (.tuple #[.int .i64 (yH l k:Nat),.bool (VZ l k)])∧jB w w':=by
 obtain⟨_,kv,av,h1,h2,_⟩:=h
 obtain⟨K,hK⟩:∃K,J4 l=K:=⟨_,rfl⟩
 have hP:yH l k=yS K k 0 K.length:=by rw[yH,hK,← hK,vF]
 have hH:VZ l k=decide (K[yH l k]? = some k):=by rw[VZ,hK]
 rw[hH,hP]
 rw[hK] at h2
 clear hP hH hK
 obtain⟨c0,c1,c2⟩:=vZ h1
 obtain⟨a,c,rfl,hlc,hcm,_⟩:=j6 h2
 have HR:Hid (∀(i:Nat) (x:ByteArray),K[i]? = some x→∃g,a=some ⟨g,0,none⟩∧w.cell? ⟨g,i,none⟩=some (.string x)):=fun i x hx=>cB h2 (by simp[hx])
 unfold zA at hcm
 have j9:K.length≤9223372036854775807:=by omega
 clear h1 h2 hlc hcm
 go_enter func108,ntmps108
 go_wp2_with fail
 go_quiet (fail)
 have G:=(jB.refl w).drewN nq
 have HG:=zh G
 replace c0:=jB.cell G c0
 clear c1 c2
 have HR2:Hid (∀(i:Nat) (x:ByteArray),K[i]? = some x→∃g,a=some ⟨g,0,none⟩∧(w.drewN nq).cell? ⟨g,i,none⟩=some (.string x)):=fun i x hx=>by
  obtain⟨g,e,hc⟩:=HR.out i x hx
  exact⟨g,e,G.cell hc⟩
 clear G HR
 generalize w.drewN nq=x0 at *
 go_wp2_with fail
 go_loop [6,7] (fun x y=>∃lo hi:Nat,lo≤hi∧hi≤K.length∧x=.int .i64 lo∧y=.int .i64 hi∧Hid (yS K k lo hi=yS K k 0 K.length)) (fun x y=>(intOf y).toNat - (intOf x).toNat)
 case atStart=>exact⟨0,K.length,by omega,Nat.le_refl _,rfl,rfl,by show _=_;rfl⟩
 case round=>
  obtain⟨lo,hi,h1,h2,rfl,rfl,HE⟩:=hrel
  by_cases hlt:lo < hi
  ·have hml:lo≤lo+(hi - lo) / 2:=by omega
   have hmh:lo+(hi - lo) / 2 < hi:=by omega
   obtain⟨x,hx⟩:∃x,K[lo+(hi - lo) / 2]? = some x:=⟨_,List.getElem?_eq_getElem (by omega)⟩
   have hh:yS K k lo hi=if ltS x k then yS K k (lo+(hi - lo) / 2+1) hi else yS K k lo (lo+(hi - lo) / 2):=by
    rw[yS,if_pos hlt]
    have:K.getD (lo+(hi - lo) / 2) ByteArray.empty=x:=by simp[List.getD,hx]
    rw[this]
   have HH:=zh hh
   obtain⟨g,rfl,c3⟩:=HR2.out _ x hx
   have HM:=zh (And.intro hml hmh)
   have hmn:(lo:Int)+((hi:Int) - lo) / 2 < K.length:=by omega
   have hlti:(lo:Int) < hi:=by omega
   have h2i:(hi:Int)≤K.length:=by omega
   clear hh hx hml hmh
   cases hb:ltS x k with
   | true=>
    have HB:=zh hb
    clear hb
    go_wp2_with fail
    refine (aH _ _ _).mono ?_
    rw[HB.out]
    rintro r w' ⟨rfl,rfl⟩
    go_wp2_with fail
    go_round
    case rel=>exact⟨lo+(hi - lo) / 2+1,hi,by have:=HM.out;omega,h2,congrArg (Value.int _) (by omega),rfl,by
     show _=_
     rw[← HE.out,HH.out,HB.out,if_pos rfl]⟩
    case measure=>simp[intOf];omega
   | false=>
    have HB:=zh hb
    clear hb
    go_wp2_with fail
    refine (aH _ _ _).mono ?_
    rw[HB.out]
    rintro r w' ⟨rfl,rfl⟩
    go_wp2_with fail
    go_round
    case rel=>exact⟨lo,lo+(hi - lo) / 2,by have:=HM.out;omega,by have:=HM.out;omega,rfl,congrArg (Value.int _) (by omega),by
     show _=_
     rw[← HE.out,HH.out,HB.out];rfl⟩
    case measure=>simp[intOf];omega
  ·obtain rfl:lo=hi:=by omega
   have he:yS K k 0 K.length=lo:=by rw[← HE.out,yS,if_neg (by omega)]
   have HF:=zh he
   clear he HE
   by_cases hl2:lo < K.length
   ·obtain⟨x,hx⟩:∃x,K[lo]? = some x:=⟨_,List.getElem?_eq_getElem hl2⟩
    obtain⟨g,rfl,c3⟩:=HR2.out _ x hx
    have hli:(lo:Int) < K.length:=by omega
    have HX:=zh hx
    clear hx
    have hbe:(x.toList == k.toList)=decide (x=k):=by rw[bU]
    go_wp2_with fail
    go_quiet (fail)
    have HG2:=zh (HG.out.trans ((jB.refl x0).drewN nq))
    go_wp2
    go_ret2
    refine⟨?_,HG2.out⟩
    rw[HF.out,HX.out]
    simp
   ·have hli:¬(lo:Int) < K.length:=by omega
    have hl0:K[lo]? = none:=List.getElem?_eq_none (by omega)
    have HX:=zh hl0
    clear hl0
    go_wp2_with fail
    go_quiet (fail)
    have HG2:=zh (HG.out.trans ((jB.refl x0).drewN nq))
    go_wp2
    go_ret2
    refine⟨?_,HG2.out⟩
    rw[HF.out,HX.out]
    simp
theorem cC {w:World} {p:Nat} {S:Nat→Prop} {l:zQ} (k:ByteArray) (h:zO w p S l) :
 Calls prog 55 #[jF p,.string k] w fun r w'=>r=.returned (.tuple #[.int .i64 (yF l k).1,.bool (yF l k).2])∧jB w w':=by
 have HB:=zh h
 obtain⟨_,kv,av,h1,h2,h3,_⟩:=h
 obtain⟨c0,c1,c2⟩:=vZ h1
 obtain⟨a,c,rfl,hlc,hcm,_⟩:=j6 h3
 have HA:=zh h3
 have HL:=zh (bW (l:=l) (k:=k))
 unfold zA at hcm
 have j9:(J9 l).length≤9223372036854775807:=by omega
 clear h1 h2 h3 hlc hcm
 go_enter func55,ntmps55
 go_wp2_with fail
 refine (JL HB.out).mono ?_
 rintro r w' ⟨rfl,rfl⟩
 go_wp2_with fail
 refine (YU k HB.out).mono ?_
 rintro r w2 ⟨rfl,hg⟩
 cases hp:VZ l k with
 | true=>
  have hlt:=HL.out hp
  have hlt2:(yH l k:Int) < (J9 l).length:=by rw[vY];omega
  obtain⟨x,hx⟩:∃x,(J9 l)[yH l k]? = some x:=⟨_,List.getElem?_eq_getElem (by rw[vY];exact hlt)⟩
  obtain⟨g,rfl,c3⟩:=cB HA.out (show ((J9 l).map (Value.int .i64))[yH l k]? = some (.int .i64 x) by simp[hx])
  have HE:Hid (yF l k=(x,true)):=by show _=_;rw[yF,hp,if_pos rfl];simp[List.getD_eq_getElem?_getD,hx]
  have d0:=hg.cell c1
  have d1:=hg.cell c3
  have HG:=zh hg
  clear hx hp hlt hg c0 c1 c2 c3
  generalize yH l k=i at *
  generalize (J9 l).length=n at *
  go_wp2
  go_ret2
  exact⟨by rw[HE.out];rfl,HG.out⟩
 | false=>
  have HE:Hid (yF l k=(0,false)):=by show _=_;rw[yF,hp];rfl
  have HG:=zh hg
  clear hp hg
  go_wp2
  go_ret2
  exact⟨by rw[HE.out];rfl,HG.out⟩
theorem VG:∃i0,Tryz.prog.info? 3=some i0∧i0.zero=some (.int .i64 0)∧i0.size=1∧i0.bytes=8:=by
 have h:=Tryz.infoIntK
 cases hi:Tryz.prog.info? 3 with
 | none=>rw[hi] at h;cases h
 | some i=>
  rw[hi] at h
  simp at h
  exact⟨i,rfl,h.1,h.2.1,h.2.2⟩
theorem mY {o:Oper} {a:Act} {K:Act→World→Prop} {Q:Exit→Act→World→Prop} (w:World) (s x:Operand) (ho:o.op=.call {callee:=.builtin .append,args:=#[s,x],argTypes:=#[34,34]})
 (v:Value) (ss:List ByteArray) (hs:a.eval s=v) (j3:yR w 0 v ss) (g:Nat) (z:ByteArray) (hx:a.eval x=.slice (some ⟨g,0,none⟩) 1 1) (hc:w.cell? ⟨g,0,none⟩=some (.string z)) (j9:ss.length≤1048577)
 (h:∀v' w',yR w' 0 v' (ss++[z])→w.grownBy w' v.ownBlock→zJ w v.ownBlock v'.ownBlock→K (a.put o.dst v') w'):o.wp prog a w K Q:=by
 obtain⟨i0,hi,hz0,hz1,hz2⟩:=YL
 obtain⟨v',w',hr,h2,h3,h4⟩:=yQ (P:=prog) w 0 34 o.type 9 i0 (.string ⟨#[]⟩) 1 16 underlying34 hi hz0 hz1 hz2 rfl (by decide) v ss.length _ j3 ⟨g,0,none⟩ 1 1 [.string z] rfl (fun j u hj=>by
  have hj0:j=0:=by have:=(List.getElem?_eq_some_iff.1 hj).1;simp at this;omega
  subst hj0
  simp at hj
  subst hj
  rw[add0];exact hc) (by intro u hu;simp at hu;subst hu;rfl) (by unfold maxLen;omega) (by omega) (Nat.zero_le _)
 refine Lib.wp_append_run w s x 34 34 ho v _ hs hx v' w' hr (h v' w' ?_ h3 h4)
 unfold yR
 rw[List.length_append,List.map_append]
 exact h2
theorem mZ {o:Oper} {a:Act} {K:Act→World→Prop} {Q:Exit→Act→World→Prop} (w:World) (s x:Operand) (ho:o.op=.call {callee:=.builtin .append,args:=#[s,x],argTypes:=#[44,44]})
 (v:Value) (ss:List Int) (hs:a.eval s=v) (j3:VE w 0 v ss) (g:Nat) (z:Int) (hx:a.eval x=.slice (some ⟨g,0,none⟩) 1 1) (hc:w.cell? ⟨g,0,none⟩=some (.int .i64 z)) (j9:ss.length≤1048577)
 (h:∀v' w',VE w' 0 v' (ss++[z])→w.grownBy w' v.ownBlock→zJ w v.ownBlock v'.ownBlock→K (a.put o.dst v') w'):o.wp prog a w K Q:=by
 obtain⟨i0,hi,hz0,hz1,hz2⟩:=VG
 obtain⟨v',w',hr,h2,h3,h4⟩:=yQ (P:=prog) w 0 44 o.type 3 i0 (.int .i64 0) 1 8 underlying44 hi hz0 hz1 hz2 rfl (by decide) v ss.length _ j3 ⟨g,0,none⟩ 1 1 [.int .i64 z] rfl (fun j u hj=>by
  have hj0:j=0:=by have:=(List.getElem?_eq_some_iff.1 hj).1;simp at this;omega
  subst hj0
  simp at hj
  subst hj
  rw[add0];exact hc) (by intro u hu;simp at hu;subst hu;rfl) (by unfold maxLen;omega) (by omega) (Nat.zero_le _)
 refine Lib.wp_append_run w s x 44 44 ho v _ hs hx v' w' hr (h v' w' ?_ h3 h4)
 unfold VE
 rw[List.length_append,List.map_append]
 exact h2
abbrev dU (a b:Value):Obj:=.cells #[a,b,.bool true] 143 (0,0)
section
variable (q:Nat) (kv av:Value) (K:List ByteArray) (A:List Int) (w0:World)
def LayS (k:Nat):Prop:=k=q∨kv.ownBlock=some k∨av.ownBlock=some k
def LayW:Nat→World→Prop
 | 0,w=>jB w0 w
 | 1,w=>w.heap[q]? = some (dU kv av)∧VE w 0 av A∧Moved (LayS q kv av) w0 w
 | 2,w=>w.heap[q]? = some (dU kv av)∧Moved (LayS q kv av) w0 w
 | 3,w=>(w.cell? ⟨q,1,none⟩=some av∧w.frozen? ⟨q,1,none⟩=false)∧∃kv',w.heap[q]? = some (dU kv' av)∧yR w 0 kv' (K++[⟨#[]⟩])∧zJ w0 kv.ownBlock kv'.ownBlock∧Moved (LayS q kv av) w0 w
 | _,w=>∃kv' av',w.heap[q]? = some (dU kv' av')∧yR w 0 kv' (K++[⟨#[]⟩])∧zJ w0 kv.ownBlock kv'.ownBlock∧VE w 0 av' (A++[0])∧zJ w0 av.ownBlock av'.ownBlock∧Moved (LayS q kv av) w0 w
def LayT:Nat→World→World→Prop
 | 0,w,w'=>Moved (fun k=>kv.ownBlock=some k) w w'
 | 1,w,w'=>VE w 0 av A∧Moved (fun k=>av.ownBlock=some k) w w'
 | _,w,w'=>(∃a b,w.heap[q]? = some (dU a b))∧Moved (fun k=>k=q) w w'
def LayK (p:Nat) (v:Value) (w:World):Prop:=p≠0∧(p≤2→yR w 0 v (K++[⟨#[]⟩])∧zJ w0 kv.ownBlock v.ownBlock)
def LayA (p:Nat) (v:Value) (w:World):Prop:=2≤p∧(p≤3→VE w 0 v (A++[0])∧zJ w0 av.ownBlock v.ownBlock)
def V6 (m:Nat) (z:Value) (t:TypeId) (p:Nat) (v:Value) (w:World):Prop:=p≤m→∃g,v=.slice (some ⟨g,0,none⟩) 1 1∧w0.heap.size≤g∧w.heap[g]? = some (.cells #[z] t (0,0))
variable {q kv av K A w0}
theorem LayW.grew:∀(p:Nat) (w w':World),jB w w'→LayW q kv av K A w0 p w→LayW q kv av K A w0 p w'
 | 0,w,w',h,k=>jB.trans k h
 | 1,w,w',h,⟨k1,k2,k3⟩=>⟨h.heap k1,kU k2 h,k3.grew h⟩
 | 2,w,w',h,⟨k1,k3⟩=>⟨h.heap k1,k3.grew h⟩
 | 3,w,w',h,⟨k0,kv',k1,k2,k3,k4⟩=>⟨⟨h.cell k0.1,jE (h.heap k1) 1⟩,kv',h.heap k1,kU k2 h,k3,k4.grew h⟩
 | p+4,w,w',h,⟨kv',av',k1,k2,k3,k4,k5,k6⟩=>⟨kv',av',h.heap k1,kU k2 h,k3,kU k4 h,k5,k6.grew h⟩
theorem LayK.st:(∀p v w w',jB w w'→LayK kv K w0 p v w→LayK kv K w0 p v w')∧∀p v w w',LayT q kv av A p w w'→LayK kv K w0 p v w→LayK kv K w0 (p+1) v w':=by
 refine⟨fun p v w w' hg h=>⟨h.1,fun hp=>⟨kU (h.2 hp).1 hg,(h.2 hp).2⟩⟩,fun p v w w' ht h=>⟨by omega,fun hp=>?_⟩⟩
 match p,ht,h with
 | 0,_,h=>exact absurd rfl h.1
 | 1,ht,h=>
  obtain⟨h1,h2⟩:=h.2 (by omega)
  exact⟨ht.2.owns h1 (fun k hk hk2=>ZN ht.1 h1 (by decide) hk2 hk),h2⟩
 | p+2,_,_=>omega
theorem LayA.st:(∀p v w w',jB w w'→LayA av A w0 p v w→LayA av A w0 p v w')∧∀p v w w',LayT q kv av A p w w'→LayA av A w0 p v w→LayA av A w0 (p+1) v w':=by
 refine⟨fun p v w w' hg h=>⟨h.1,fun hp=>⟨kU (h.2 hp).1 hg,(h.2 hp).2⟩⟩,fun p v w w' ht h=>⟨by have:=h.1;omega,fun hp=>?_⟩⟩
 match p,ht,h with
 | 0,_,h=>exact absurd h.1 (by omega)
 | 1,_,h=>exact absurd h.1 (by omega)
 | p+2,ht,h=>
  obtain⟨h1,h2⟩:=h.2 (by omega)
  obtain⟨⟨a,b,hq⟩,hm⟩:=ht
  exact⟨hm.owns h1 (fun k hk e=>zR h1 hq (by decide) (by rw[hk,e])),h2⟩
theorem LayN0.st {z:Value} {t:TypeId}:(∀p v w w',jB w w'→V6 w0 0 z t p v w→V6 w0 0 z t p v w')∧∀p v w w',LayT q kv av A p w w'→V6 w0 0 z t p v w→V6 w0 0 z t (p+1) v w':=
 ⟨fun p v w w' hg h hp=>by obtain⟨g,e,h1,h2⟩:=h hp;exact⟨g,e,h1,hg.heap h2⟩,fun p v w w' ht h hp=>by omega⟩
theorem LayN1.st {z:Value} {t:TypeId} (hk:∀k,kv.ownBlock=some k→k < w0.heap.size):(∀p v w w',jB w w'→V6 w0 1 z t p v w→V6 w0 1 z t p v w')∧∀p v w w',LayT q kv av A p w w'→V6 w0 1 z t p v w→V6 w0 1 z t (p+1) v w':=by
 refine⟨fun p v w w' hg h hp=>by obtain⟨g,e,h1,h2⟩:=h hp;exact⟨g,e,h1,hg.heap h2⟩,fun p v w w' ht h hp=>?_⟩
 have hp0:p=0:=by omega
 subst hp0
 obtain⟨g,e,h1,h2⟩:=h (by omega)
 exact⟨g,e,h1,Moved.heap ht h2 (fun hq=>by have:=hk g hq;omega)⟩
end
/-! ### rows of one-cell elements: shifting, storing -/
theorem aS {w:World} {e:TypeId} {v:Value} {n:Nat} {xs:List Value} (h:w.ownsRow 0 e 1 v (n+1) xs):∃g c,v=.slice (some ⟨g,0,none⟩) (n+1) c∧n+1≤c∧c≤9223372036854775807:=by
 rcases h.2 with ⟨_,hn⟩|⟨g,cap,cur,e,_,_,hn,hm,_⟩
 ·omega
 ·exact⟨g,cap,e,hn,by unfold maxLen at hm;exact hm⟩
theorem dV {w:World} {e:TypeId} {g n c:Nat} {xs:List Value} (h:w.ownsRow 0 e 1 (.slice (some ⟨g,0,none⟩) n c) n xs) (i:Nat) (u:Value):(w.setCell ⟨g,i,none⟩ u).ownsRow 0 e 1 (.slice (some ⟨g,0,none⟩) n c) n (xs.set i u):=by
 refine⟨by rw[List.length_set];exact h.1,?_⟩
 rcases h.2 with ⟨he,hn⟩|⟨g1,cap,cur,he,hb,hg,hn,hm,hs,ht⟩
 ·cases he
 ·cases he
  have hh:=heap_setCell_same w g i cur e u hg
  refine .inr ⟨g,c,_,rfl,hb,hh,hn,hm,by simpa using hs,?_⟩
  rw[Array.toList_setIfInBounds,List.take_set,ht]
theorem dW {α:Type} (L:List α) (off:Nat) (cs:List α) (n:Nat) (h:off+cs.length≤n) (hn:n≤L.length):(splice L off cs).take n=splice (L.take n) off cs:=by
 unfold splice
 have hl:(L.take off).length=off:=by rw[List.length_take];omega
 rw[List.take_append,hl,List.take_append,List.take_of_length_le (l:=L.take off) (by omega),List.take_of_length_le (l:=cs) (by omega),List.take_take,Nat.min_eq_left (by omega),List.drop_take,Nat.sub_sub]
theorem ZG {o:Oper} {a:Act} {K:Act→World→Prop} {Q:Exit→Act→World→Prop} (w:World) (d s:Operand) (dT:TypeId) (ho:o.op=.call {callee:=.builtin .copy,args:=#[d,s],argTypes:=#[dT,dT]}) (elem:TypeId) (hu:Tryz.prog.underlying dT=some (.slice elem)) (hsz:(Tryz.prog.info? elem).map (·.size)=some 1)
 (g n c:Nat) (xs:List Value) (j3:w.ownsRow 0 elem 1 (.slice (some ⟨g,0,none⟩) (n+1) c) (n+1) xs) (h1:∀v∈xs,v.oneCell'=true) (i:Nat) (hi:i≤n) (da:Option Addr) (dc sc:Nat) (hda:i < n→da=some ⟨g,i+1,none⟩)
 (hd:a.eval d=.slice da (n - i) dc) (hs:a.eval s=.slice (some ⟨g,i,none⟩) (n+1 - i) sc)
 (h:∀v w',w'.ownsRow 0 elem 1 (.slice (some ⟨g,0,none⟩) (n+1) c) (n+1) (splice xs (i+1) ((xs.drop i).take (n - i)))→Moved (fun k=>k=g) w w'→K (a.put o.dst v) w'):o.wp prog a w K Q:=by
 have hown0:=j3
 have hlx:xs.length=n+1:=by have:=j3.1;omega
 by_cases h0:n - i=0
 ·have hrun:=run_copy_none (P:=prog) w dT dT o.type elem da (some ⟨g,i,none⟩) (n - i) dc (n+1 - i) sc hu hsz (by rw[h0];exact Nat.min_zero _)
  have hx:splice xs (i+1) ((xs.drop i).take (n - i))=xs:=by
   unfold splice
   rw[h0,List.take_zero,List.nil_append];simp
  rw[hx] at h
  unfold Oper.wp
  simp[execOp,ho,resolve,invoke,builtin,hd,hs,hrun,Result.andThen]
  exact h _ w hown0 (Moved.refl _ w)
 ·have hda':=hda (by omega)
  subst hda'
  rcases j3.2 with ⟨he,hn⟩|⟨g1,cap,cur,he,hb,hg,hn,hm,hsize,ht⟩
  ·cases he
  ·cases he
   rw[Nat.mul_one] at ht hsize
   have hlc:((xs.drop i).take (n - i)).length=n - i:=by simp;omega
   have hcs:∀j v,((xs.drop i).take (n - i))[j]? = some v→w.cell? ((⟨g,i,none⟩:Addr).add j)=some v:=by
    intro j v hj
    have hjl:j < n - i:=by have:=(List.getElem?_eq_some_iff.1 hj).1;omega
    rw[List.getElem?_take,if_pos hjl,List.getElem?_drop] at hj
    have:=World.ownsRow.cells hown0 (g:=g) rfl (i+j) v hj
    rw[add0] at this
    rw[QN _ g i j rfl]
    rwa [Nat.zero_add] at this
   have hrun:=run_copy_row (P:=prog) w dT dT o.type elem g (i+1) (n - i) dc ⟨g,i,none⟩ (n+1 - i) sc cur elem ((xs.drop i).take (n - i)) hu hsz hg (by rw[hlc];exact (Nat.min_eq_right (by omega)).symm) hcs (by rw[hlc];omega) (fun v hv=>h1 v (List.mem_of_mem_drop (List.mem_of_mem_take hv)))
   unfold Oper.wp
   simp[execOp,ho,resolve,invoke,builtin,hd,hs,hrun,Result.andThen]
   refine h _ _ ⟨?_,.inr ⟨g,c,_,rfl,Nat.zero_le _,setRow_heap w g cur _ elem _ hg,hn,hm,?_,?_⟩⟩ ⟨rfl,rfl,rfl,by simp[World.setRow],fun k hk hne=>setRow_other w g k _ hne⟩
   ·rw[length_splice _ _ _ (by rw[hlc];omega)];omega
   ·simp
    omega
   ·rw[Nat.mul_one]
    have e:cur.toList.take (i+1)++(xs.drop i).take (n - i)++cur.toList.drop (i+1+((xs.drop i).take (n - i)).length)=splice cur.toList (i+1) ((xs.drop i).take (n - i)):=by unfold splice;rw[List.append_assoc]
    have e2:=dW cur.toList (i+1) ((xs.drop i).take (n - i)) (n+1) (by rw[hlc];omega) (by simp;omega)
    rw[ht] at e2
    simpa [List.append_assoc,splice] using e2
def CpW (wA:World) (g:Nat) (e:TypeId) (v:Value) (n:Nat) (xs:List Value):Nat→World→Prop
 | 0,w=>jB wA w
 | _,w=>w.ownsRow 0 e 1 v n xs∧Moved (fun k=>k=g) wA w
theorem CpW.grew {wA:World} {g:Nat} {e:TypeId} {v:Value} {n:Nat} {xs:List Value}:∀(p:Nat) (w w':World),jB w w'→CpW wA g e v n xs p w→CpW wA g e v n xs p w'
 | 0,w,w',h,k=>jB.trans k h
 | p+1,w,w',h,⟨k1,k2⟩=>⟨kU k1 h,k2.grew h⟩
theorem aT {w:World} {e:TypeId} {g n c:Nat} {xs:List Value} (h:w.ownsRow 0 e 1 (.slice (some ⟨g,0,none⟩) n c) n xs) {i:Nat} {x:Value} (hx:xs[i]? = some x):w.cell? ⟨g,i,none⟩=some x:=by
 obtain⟨g',e',hc⟩:=cB h hx
 cases e';exact hc
theorem aU {w:World} {e:TypeId} {g n c:Nat} {xs:List Value} (h:w.ownsRow 0 e 1 (.slice (some ⟨g,0,none⟩) n c) n xs) (i:Nat):w.frozen? ⟨g,i,none⟩=false:=by
 rcases h.2 with ⟨he,hn⟩|⟨g1,cap,cur,he,hb,hg,_⟩
 ·cases he
 ·cases he;exact jE hg i
def StW (wD:World) (gk ga kc ac n i:Nat) (e1 e2:TypeId) (KS AS:List Value) (x y:Value):Nat→World→Prop
 | 0,w=>jB wD w
 | 1,w=>w.ownsRow 0 e1 1 (.slice (some ⟨gk,0,none⟩) n kc) n (KS.set i x)∧w.ownsRow 0 e2 1 (.slice (some ⟨ga,0,none⟩) n ac) n AS∧Moved (fun k=>k=gk∨k=ga) wD w
 | _,w=>w.ownsRow 0 e1 1 (.slice (some ⟨gk,0,none⟩) n kc) n (KS.set i x)∧w.ownsRow 0 e2 1 (.slice (some ⟨ga,0,none⟩) n ac) n (AS.set i y)∧Moved (fun k=>k=gk∨k=ga) wD w
theorem StW.grew {wD:World} {gk ga kc ac n i:Nat} {e1 e2:TypeId} {KS AS:List Value} {x y:Value}:∀(p:Nat) (w w':World),jB w w'→StW wD gk ga kc ac n i e1 e2 KS AS x y p w→StW wD gk ga kc ac n i e1 e2 KS AS x y p w'
 | 0,w,w',h,k=>jB.trans k h
 | 1,w,w',h,⟨k1,k2,k3⟩=>⟨kU k1 h,kU k2 h,k3.grew h⟩
 | p+2,w,w',h,⟨k1,k2,k3⟩=>⟨kU k1 h,kU k2 h,k3.grew h⟩
theorem dX {α:Type} (f:α→Value) (L:List α) (z x:α) (n i:Nat) (hn:L.length=n) (hi:i≤n) :
 (splice ((L++[z]).map f) (i+1) ((((L++[z]).map f).drop i).take (n - i))).set i (f x)=(JH L i x).map f:=by
 have e1:(L++[z]).map f=L.map f++[f z]:=by simp
 have e2:((L.map f++[f z]).drop i).take (n - i)=(L.map f).drop i:=by
  rw[List.drop_append_of_le_length (by simp;omega),List.take_append_of_le_length (by simp;omega),List.take_of_length_le (by simp;omega)]
 rw[e1,e2,dA _ _ _ _ (by simp;omega)]
 simp[JH,List.map_take,List.map_drop]
theorem lay_any {w0:World} {p0:Nat} {S:Nat→Prop} {l:zQ} (i:Nat) (k:ByteArray) (a:Int) (h:zO w0 p0 S l) (hi:i≤l.length) (hl:l.length≤1048577) :
 Calls prog 170 #[jF p0,.int .i64 i,.string k,.int .i64 a] w0 fun r w'=>r=.returned (.tuple #[])∧∃S',zO w' p0 S' (JH l i (k,a))∧vS S S' w0 w'∧Moved S w0 w':=by
 obtain⟨hS0,kv,av,hst,hok,hoa,hSk,hSa⟩:=h
 have HC:=zh (vZ hst)
 have HST:=zh hst
 obtain⟨Kl,hK⟩:∃K,J4 l=K:=⟨_,rfl⟩
 obtain⟨Al,hA⟩:∃A,J9 l=A:=⟨_,rfl⟩
 rw[hK] at hok
 rw[hA] at hoa
 have HOK:=zh hok
 have HOA:=zh hoa
 have HLN:Hid (Kl.length≤1048577∧Al.length≤1048577):=by show _∧_;rw[← hK,← hA,vF,vY];exact⟨hl,hl⟩
 have HKB:Hid (∀k,kv.ownBlock=some k→k < w0.heap.size):=fun k hk=>vH hok hk
 have HSZ:∀(p:Nat) (w:World),LayW p0 kv av Kl Al w0 p w→w0.heap.size≤w.heap.size:=fun p w h=>by
  match p,h with
  | 0,h=>exact jB.size h
  | 1,h=>exact h.2.2.size
  | 2,h=>exact h.2.size
  | 3,⟨_,_,h⟩=>exact h.2.2.2.size
  | p+4,⟨_,_,h⟩=>exact h.2.2.2.2.2.size
 have HLL:=zh (And.intro hK hA)
 have HSS:=zh (And.intro hS0 (And.intro hSk hSa))
 have HIL:=zh (And.intro hi hl)
 obtain⟨n,hn⟩:∃n,l.length=n:=⟨_,rfl⟩
 have HN:Hid (Kl.length=n∧Al.length=n):=by show _∧_;rw[← hK,← hA,vF,vY];exact⟨hn,hn⟩
 have HIN:Hid (i≤n):=by show _≤_;rw[← hn];exact hi
 have HNL:Hid (n≤1048577):=by show _≤_;rw[← hn];exact hl
 have SZk:(Tryz.prog.info? 9).map (·.size)=some 1:=by obtain⟨i0,h1,_,h2,_⟩:=YL;rw[h1];simp[h2]
 have SZa:(Tryz.prog.info? 3).map (·.size)=some 1:=by obtain⟨i0,h1,_,h2,_⟩:=VG;rw[h1];simp[h2]
 clear hst hok hoa hS0 hSk hSa hK hA hi hl hn
 go_enter func170,ntmps170
 go_wp2_with fail
 refine jO [7,13,16,19] (LayW p0 kv av Kl Al w0) (fun _ w w'=>jB w w') ((fun p (_:Nat→Value)=>(LayT p0 kv av Al) p)) [[],[],[],[2],[2,3],[2,3,4],[],[2,3,4,5,6],[],[8],[8,9],[8,9,10],[],[2,3,4,5,6,7,8,9,10,11,12],[0,2,3,4,5,6,7,8,9,10,11,12,13],[0,2,3,4,5,6,7,8,9,10,11,12,13,14],[0,2,3,4,5,6,7,8,9,10,11,12,13,14,15],[0,1,2,3,4,5,6,7,8,9,10,11,12,13,14,15,16],[0,1,2,3,4,5,6,7,8,9,10,11,12,13,14,15,16,17],[0,1,2,3,4,5,6,7,8,9,10,11,12,13,14,15,16,17,18]] [[(9,1),(10,2),(11,3),(12,4),(13,5),(14,6),(15,7),(16,8),(17,9),(18,10),(19,11),(20,12),(21,13)],[(8,0),(10,2),(11,3),(12,4),(13,5),(14,6),(15,7),(16,8),(17,9),(18,10),(19,11),(20,12),(21,13),(22,14),(23,15)],[(8,0),(9,1),(14,6),(16,8),(17,9),(18,10),(19,11),(20,12)],[(8,0),(9,1),(10,2),(14,6),(16,8),(17,9),(18,10),(19,11),(20,12)],[(8,0),(9,1),(10,2),(11,3),(14,6),(16,8),(17,9),(18,10),(19,11),(20,12)],[(8,0),(9,1),(10,2),(11,3),(12,4),(14,6),(16,8),(17,9),(18,10),(19,11),(20,12)],[(8,0),(9,1),(10,2),(11,3),(12,4),(13,5),(16,8),(17,9),(18,10),(19,11),(20,12)],[(8,0),(9,1),(10,2),(11,3),(12,4),(13,5),(14,6),(16,8),(17,9),(18,10),(19,11),(20,12)],[(8,0),(9,1),(10,2),(11,3),(12,4),(13,5),(14,6),(15,7),(20,12)],[(8,0),(9,1),(10,2),(11,3),(12,4),(13,5),(14,6),(15,7),(16,8),(20,12)],[(8,0),(9,1),(10,2),(11,3),(12,4),(13,5),(14,6),(15,7),(16,8),(17,9),(20,12)],[(8,0),(9,1),(10,2),(11,3),(12,4),(13,5),(14,6),(15,7),(16,8),(17,9),(18,10),(20,12)],[(8,0),(9,1),(10,2),(11,3),(12,4),(13,5),(14,6),(15,7),(16,8),(17,9),(18,10),(19,11)],[(8,0),(9,1),(10,2),(11,3),(12,4),(13,5),(14,6),(15,7),(16,8),(17,9),(18,10),(19,11),(20,12)],[(8,0),(9,1),(10,2),(11,3),(12,4),(13,5),(14,6),(15,7),(16,8),(17,9),(18,10),(19,11),(20,12),(21,13)],[(8,0),(9,1),(10,2),(11,3),(12,4),(13,5),(14,6),(15,7),(16,8),(17,9),(18,10),(19,11),(20,12),(21,13),(22,14)],[(8,0),(9,1),(10,2),(11,3),(12,4),(13,5),(14,6),(15,7),(16,8),(17,9),(18,10),(19,11),(20,12),(21,13),(22,14),(23,15)],[(8,0),(9,1),(10,2),(11,3),(12,4),(13,5),(14,6),(15,7),(16,8),(17,9),(18,10),(19,11),(20,12),(21,13),(22,14),(23,15)],[(8,0),(9,1),(10,2),(11,3),(12,4),(13,5),(14,6),(15,7),(16,8),(17,9),(18,10),(19,11),(20,12),(21,13),(22,14),(23,15),(24,17)],[(8,0),(9,1),(10,2),(11,3),(12,4),(13,5),(14,6),(15,7),(16,8),(17,9),(18,10),(19,11),(20,12),(21,13),(22,14),(23,15),(24,17),(25,18)]] [(8,0),(9,1),(10,2),(11,3),(12,4),(13,5),(14,6),(15,7),(16,8),(17,9),(18,10),(19,11),(20,12),(21,13),(22,14),(23,15),(24,17),(25,18)]
  [IsP (jF p0),IsP (jF p0),IsP (jF p0),IsP (jF p0),IsP (jF p0),IsP (kv),V6 w0 0 (.string ⟨#[]⟩) 9,LayK kv Kl w0,IsP (jF p0),IsP (jF p0),IsP (.pointer (some ⟨p0,1,none⟩)),IsP (av),V6 w0 1 (.int .i64 0) 3,LayA av Al w0,IsP (jF p0),IsP (jF p0),fun _ _ _=>True,IsP (jF p0),IsP (.pointer (some ⟨p0,1,none⟩)),fun _ _ _=>True]
  zk (LayW.grew) ((jB.refl _).drew) zk zk ⟨jC,jC,jC,jC,jC,jC,qQ (LayN0.st),qQ (LayK.st),jC,jC,jC,jC,qQ (LayN1.st HKB.out),qQ (LayA.st),jC,jC,⟨fun _ _ _ _ _ h=>h,fun _ _ _ _ _ h=>h⟩,jC,jC,⟨fun _ _ _ _ _ h=>h,fun _ _ _ _ _ h=>h⟩,trivial⟩ rfl ?_ ?_
 ·intro y w2 hW hF
  simp only[kT,IsP,Nat.reduceAdd,List.length_cons,List.length_nil] at hF hW
  have h0:=hF.1
  have h1:=hF.2.1
  have h2:=hF.2.2.1
  have h3:=hF.2.2.2.1
  have h4:=hF.2.2.2.2.1
  have h5:=hF.2.2.2.2.2.1
  have h6:=hF.2.2.2.2.2.2.1
  have h7:=hF.2.2.2.2.2.2.2.1
  have h8:=hF.2.2.2.2.2.2.2.2.1
  have h9:=hF.2.2.2.2.2.2.2.2.2.1
  have h10:=hF.2.2.2.2.2.2.2.2.2.2.1
  have h11:=hF.2.2.2.2.2.2.2.2.2.2.2.1
  have h12:=hF.2.2.2.2.2.2.2.2.2.2.2.2.1
  have h13:=hF.2.2.2.2.2.2.2.2.2.2.2.2.2.1
  have h14:=hF.2.2.2.2.2.2.2.2.2.2.2.2.2.2.1
  have h15:=hF.2.2.2.2.2.2.2.2.2.2.2.2.2.2.2.1
  have h17:=hF.2.2.2.2.2.2.2.2.2.2.2.2.2.2.2.2.2.1
  have h18:=hF.2.2.2.2.2.2.2.2.2.2.2.2.2.2.2.2.2.2.1
  clear hF
  simp only[jA,Act.put,zq1,zq2,zq3,zq4,zq5]
  simp only[h0,h1,h2,h3,h4,h5,h8,h9,h10,h11,h14,h15,h17,h18]
  clear h0 h1 h2 h3 h4 h5 h8 h9 h10 h11 h14 h15 h17 h18
  clear h7 h13 h6 h12
  obtain⟨kv1,av1,hst1,hok1,hnk1,hoa1,hna1,hm1⟩:=hW
  have HNN:Hid (Kl.length=n∧Al.length=n):=HN.out
  have hrk:w2.ownsRow 0 9 1 kv1 (n+1) ((Kl++[(⟨#[]⟩:ByteArray)]).map Value.string):=by have h:=hok1;unfold yR at h;rw[List.length_append,HNN.out.1] at h;exact h
  have hra:w2.ownsRow 0 3 1 av1 (n+1) ((Al++[0]).map (Value.int .i64)):=by have h:=hoa1;unfold VE at h;rw[List.length_append,HNN.out.2] at h;exact h
  clear hok1 hoa1
  obtain⟨gk,kc,rfl,hkc,hkm⟩:=aS hrk
  obtain⟨ga,ac,rfl,hac,ham⟩:=aS hra
  have HM1:=zh (And.intro hnk1 (And.intro hna1 hm1))
  have HRk:=zh hrk
  have HRa:=zh hra
  have HST1:=zh hst1
  have HBk:Hid (w2.cell? ⟨p0,0,none⟩=some (.slice (some ⟨gk,0,none⟩) (n+1) kc)):=jK hst1 0 _ rfl
  have HBa:Hid (w2.cell? ⟨p0,1,none⟩=some (.slice (some ⟨ga,0,none⟩) (n+1) ac)):=jK hst1 1 _ rfl
  have HNE:Hid (gk≠p0∧ga≠p0∧gk≠ga):=⟨fun e=>zR hrk hst1 (by decide) (by rw[e];rfl),fun e=>zR hra hst1 (by decide) (by rw[e];rfl),fun e=>ZN hrk hra (by decide) rfl (by rw[e];rfl)⟩
  have hin:=HIN.out
  have hlm:=HNL.out
  have hii:(i:Int)+1≤kc:=by omega
  have hia:(i:Int)+1≤ac:=by omega
  have hiu:(i:Int)≤n+1:=by omega
  have hil:(i:Int)≤n:=by omega
  have hki:¬kc=i:=by omega
  have hai:¬ac=i:=by omega
  have hwi:IntKind.i64.wrap ((i:Int)+1)=(i:Int)+1:=by rw[IntKind.wrap_i64];omega
  clear hnk1 hna1 hm1 hst1 hrk hra
  generalize w2=wB at *
  go_wp2_with fail
  refine jO [13] (CpW wB gk 9 (.slice (some ⟨gk,0,none⟩) (n+1) kc) (n+1) (splice ((Kl++[(⟨#[]⟩:ByteArray)]).map Value.string) (i+1) ((((Kl++[(⟨#[]⟩:ByteArray)]).map Value.string).drop i).take (n - i)))) (fun _ w w'=>jB w w') ((fun p (_:Nat→Value)=>(fun _ _ _=>True) p)) [[],[0],[0,1],[0,1,2],[],[4],[0,1,2,3,4,5],[],[7],[7,8],[7,8,9],[],[7,8,9,10,11],[0,1,2,3,4,5,6,7,8,9,10,11,12]] [[(30,4),(31,5),(33,7),(34,8),(35,9),(36,10),(37,11),(38,12)],[(26,0),(30,4),(31,5),(33,7),(34,8),(35,9),(36,10),(37,11),(38,12)],[(26,0),(27,1),(30,4),(31,5),(33,7),(34,8),(35,9),(36,10),(37,11),(38,12)],[(26,0),(27,1),(28,2),(30,4),(31,5),(33,7),(34,8),(35,9),(36,10),(37,11),(38,12)],[(26,0),(27,1),(28,2),(29,3),(33,7),(34,8),(35,9),(36,10),(37,11),(38,12)],[(26,0),(27,1),(28,2),(29,3),(30,4),(33,7),(34,8),(35,9),(36,10),(37,11),(38,12)],[(26,0),(27,1),(28,2),(29,3),(30,4),(31,5),(33,7),(34,8),(35,9),(36,10),(37,11),(38,12)],[(26,0),(27,1),(28,2),(29,3),(30,4),(31,5),(32,6),(37,11)],[(26,0),(27,1),(28,2),(29,3),(30,4),(31,5),(32,6),(33,7),(37,11)],[(26,0),(27,1),(28,2),(29,3),(30,4),(31,5),(32,6),(33,7),(34,8),(37,11)],[(26,0),(27,1),(28,2),(29,3),(30,4),(31,5),(32,6),(33,7),(34,8),(35,9),(37,11)],[(26,0),(27,1),(28,2),(29,3),(30,4),(31,5),(32,6),(33,7),(34,8),(35,9),(36,10)],[(26,0),(27,1),(28,2),(29,3),(30,4),(31,5),(32,6),(33,7),(34,8),(35,9),(36,10),(37,11)],[(26,0),(27,1),(28,2),(29,3),(30,4),(31,5),(32,6),(33,7),(34,8),(35,9),(36,10),(37,11),(38,12)]] [(26,0),(27,1),(28,2),(29,3),(30,4),(31,5),(32,6),(33,7),(34,8),(35,9),(36,10),(37,11),(38,12),(39,13)]
   [IsP (jF p0),IsP (jF p0),IsP (jF p0),IsP (.slice (some ⟨gk,0,none⟩) (n+1) kc),IsP (.int .i64 i),IsP (.int .i64 (i+1)),fun _ v _=>∃(da:Option Addr) (dc:Nat),v=.slice da (n - i) dc∧(i < n→da=some ⟨gk,i+1,none⟩),IsP (jF p0),IsP (jF p0),IsP (jF p0),IsP (.slice (some ⟨gk,0,none⟩) (n+1) kc),IsP (.int .i64 i),IsP (.slice (some ⟨gk,i,none⟩) (n+1 - i) (kc - i)),fun _ _ _=>True]
   zk (CpW.grew) ((jB.refl _).drew) zk zk ⟨jC,jC,jC,jC,jC,jC,qQ (⟨fun _ _ _ _ _ h=>h,fun _ _ _ _ _ h=>h⟩),jC,jC,jC,jC,jC,jC,⟨fun _ _ _ _ _ h=>h,fun _ _ _ _ _ h=>h⟩,trivial⟩ rfl ?_ ?_
  ·intro y w2 hW hF
   simp only[kT,IsP,Nat.reduceAdd,List.length_cons,List.length_nil] at hF hW
   have h0:=hF.1
   have h1:=hF.2.1
   have h2:=hF.2.2.1
   have h3:=hF.2.2.2.1
   have h4:=hF.2.2.2.2.1
   have h5:=hF.2.2.2.2.2.1
   have h6:=hF.2.2.2.2.2.2.1
   have h7:=hF.2.2.2.2.2.2.2.1
   have h8:=hF.2.2.2.2.2.2.2.2.1
   have h9:=hF.2.2.2.2.2.2.2.2.2.1
   have h10:=hF.2.2.2.2.2.2.2.2.2.2.1
   have h11:=hF.2.2.2.2.2.2.2.2.2.2.2.1
   have h12:=hF.2.2.2.2.2.2.2.2.2.2.2.2.1
   clear hF
   simp only[jA,Act.put,zq1,zq2,zq3,zq4,zq5]
   simp only[h0,h1,h2,h3,h4,h5,h7,h8,h9,h10,h11,h12]
   clear h0 h1 h2 h3 h4 h5 h7 h8 h9 h10 h11 h12
   obtain⟨hrk2,hmk2⟩:=hW
   clear h6
   have HMk:=zh hmk2
   have HST2:Hid (w2.heap[p0]? = some (dU (.slice (some ⟨gk,0,none⟩) (n+1) kc) (.slice (some ⟨ga,0,none⟩) (n+1) ac))):=hmk2.heap HST1.out (fun e=>HNE.out.1 e.symm)
   have HRa2:Hid (w2.ownsRow 0 3 1 (.slice (some ⟨ga,0,none⟩) (n+1) ac) (n+1) ((Al++[0]).map (Value.int .i64))):=hmk2.owns HRa.out (fun q hq e=>by cases hq;exact HNE.out.2.2 e.symm)
   have HRk2:=zh hrk2
   clear hrk2 hmk2 HRk HRa HBk HBa HST1
   have HRk:=zh HRk2.out
   have HRa:=zh HRa2.out
   have HST1:=zh HST2.out
   clear HRk2 HRa2 HST2
   have HBk:Hid (w2.cell? ⟨p0,0,none⟩=some (.slice (some ⟨gk,0,none⟩) (n+1) kc)):=jK HST1.out 0 _ rfl
   have HBa:Hid (w2.cell? ⟨p0,1,none⟩=some (.slice (some ⟨ga,0,none⟩) (n+1) ac)):=jK HST1.out 1 _ rfl
   generalize w2=wC at *
   go_wp2_with fail
   refine jO [13] (CpW wC ga 3 (.slice (some ⟨ga,0,none⟩) (n+1) ac) (n+1) (splice ((Al++[0]).map (Value.int .i64)) (i+1) ((((Al++[0]).map (Value.int .i64)).drop i).take (n - i)))) (fun _ w w'=>jB w w') ((fun p (_:Nat→Value)=>(fun _ _ _=>True) p)) [[],[0],[0,1],[0,1,2],[],[4],[0,1,2,3,4,5],[],[7],[7,8],[7,8,9],[],[7,8,9,10,11],[0,1,2,3,4,5,6,7,8,9,10,11,12]] [[(44,4),(45,5),(47,7),(48,8),(49,9),(50,10),(51,11),(52,12)],[(40,0),(44,4),(45,5),(47,7),(48,8),(49,9),(50,10),(51,11),(52,12)],[(40,0),(41,1),(44,4),(45,5),(47,7),(48,8),(49,9),(50,10),(51,11),(52,12)],[(40,0),(41,1),(42,2),(44,4),(45,5),(47,7),(48,8),(49,9),(50,10),(51,11),(52,12)],[(40,0),(41,1),(42,2),(43,3),(47,7),(48,8),(49,9),(50,10),(51,11),(52,12)],[(40,0),(41,1),(42,2),(43,3),(44,4),(47,7),(48,8),(49,9),(50,10),(51,11),(52,12)],[(40,0),(41,1),(42,2),(43,3),(44,4),(45,5),(47,7),(48,8),(49,9),(50,10),(51,11),(52,12)],[(40,0),(41,1),(42,2),(43,3),(44,4),(45,5),(46,6),(51,11)],[(40,0),(41,1),(42,2),(43,3),(44,4),(45,5),(46,6),(47,7),(51,11)],[(40,0),(41,1),(42,2),(43,3),(44,4),(45,5),(46,6),(47,7),(48,8),(51,11)],[(40,0),(41,1),(42,2),(43,3),(44,4),(45,5),(46,6),(47,7),(48,8),(49,9),(51,11)],[(40,0),(41,1),(42,2),(43,3),(44,4),(45,5),(46,6),(47,7),(48,8),(49,9),(50,10)],[(40,0),(41,1),(42,2),(43,3),(44,4),(45,5),(46,6),(47,7),(48,8),(49,9),(50,10),(51,11)],[(40,0),(41,1),(42,2),(43,3),(44,4),(45,5),(46,6),(47,7),(48,8),(49,9),(50,10),(51,11),(52,12)]] [(40,0),(41,1),(42,2),(43,3),(44,4),(45,5),(46,6),(47,7),(48,8),(49,9),(50,10),(51,11),(52,12),(53,13)]
    [IsP (jF p0),IsP (jF p0),IsP (.pointer (some ⟨p0,1,none⟩)),IsP (.slice (some ⟨ga,0,none⟩) (n+1) ac),IsP (.int .i64 i),IsP (.int .i64 (i+1)),fun _ v _=>∃(da:Option Addr) (dc:Nat),v=.slice da (n - i) dc∧(i < n→da=some ⟨ga,i+1,none⟩),IsP (jF p0),IsP (jF p0),IsP (.pointer (some ⟨p0,1,none⟩)),IsP (.slice (some ⟨ga,0,none⟩) (n+1) ac),IsP (.int .i64 i),IsP (.slice (some ⟨ga,i,none⟩) (n+1 - i) (ac - i)),fun _ _ _=>True]
    zk (CpW.grew) ((jB.refl _).drew) zk zk ⟨jC,jC,jC,jC,jC,jC,qQ (⟨fun _ _ _ _ _ h=>h,fun _ _ _ _ _ h=>h⟩),jC,jC,jC,jC,jC,jC,⟨fun _ _ _ _ _ h=>h,fun _ _ _ _ _ h=>h⟩,trivial⟩ rfl ?_ ?_
   ·intro y w2 hW hF
    simp only[kT,IsP,Nat.reduceAdd,List.length_cons,List.length_nil] at hF hW
    have h0:=hF.1
    have h1:=hF.2.1
    have h2:=hF.2.2.1
    have h3:=hF.2.2.2.1
    have h4:=hF.2.2.2.2.1
    have h5:=hF.2.2.2.2.2.1
    have h6:=hF.2.2.2.2.2.2.1
    have h7:=hF.2.2.2.2.2.2.2.1
    have h8:=hF.2.2.2.2.2.2.2.2.1
    have h9:=hF.2.2.2.2.2.2.2.2.2.1
    have h10:=hF.2.2.2.2.2.2.2.2.2.2.1
    have h11:=hF.2.2.2.2.2.2.2.2.2.2.2.1
    have h12:=hF.2.2.2.2.2.2.2.2.2.2.2.2.1
    clear hF
    simp only[jA,Act.put,zq1,zq2,zq3,zq4,zq5]
    simp only[h0,h1,h2,h3,h4,h5,h7,h8,h9,h10,h11,h12]
    clear h0 h1 h2 h3 h4 h5 h7 h8 h9 h10 h11 h12
    obtain⟨hra3,hma3⟩:=hW
    clear h6
    have HMa:=zh hma3
    have HST2:Hid (w2.heap[p0]? = some (dU (.slice (some ⟨gk,0,none⟩) (n+1) kc) (.slice (some ⟨ga,0,none⟩) (n+1) ac))):=hma3.heap HST1.out (fun e=>HNE.out.2.1 e.symm)
    have HRk2:Hid (w2.ownsRow 0 9 1 (.slice (some ⟨gk,0,none⟩) (n+1) kc) (n+1) (splice ((Kl++[(⟨#[]⟩:ByteArray)]).map Value.string) (i+1) ((((Kl++[(⟨#[]⟩:ByteArray)]).map Value.string).drop i).take (n - i)))):=hma3.owns HRk.out (fun q hq e=>by cases hq;exact HNE.out.2.2 e)
    have HRa2:=zh hra3
    clear hra3 hma3 HRk HRa HBk HBa HST1
    have HRk:=zh HRk2.out
    have HRa:=zh HRa2.out
    have HST1:=zh HST2.out
    clear HRk2 HRa2 HST2
    have HBk:Hid (w2.cell? ⟨p0,0,none⟩=some (.slice (some ⟨gk,0,none⟩) (n+1) kc)):=jK HST1.out 0 _ rfl
    have HBa:Hid (w2.cell? ⟨p0,1,none⟩=some (.slice (some ⟨ga,0,none⟩) (n+1) ac)):=jK HST1.out 1 _ rfl
    obtain⟨u1,hu1⟩:∃u,(splice ((Kl++[(⟨#[]⟩:ByteArray)]).map Value.string) (i+1) ((((Kl++[(⟨#[]⟩:ByteArray)]).map Value.string).drop i).take (n - i)))[i]? = some u:=⟨_,List.getElem?_eq_getElem (by have h:=HRk.out.1;omega)⟩
    obtain⟨u2,hu2⟩:∃u,(splice ((Al++[0]).map (Value.int .i64)) (i+1) ((((Al++[0]).map (Value.int .i64)).drop i).take (n - i)))[i]? = some u:=⟨_,List.getElem?_eq_getElem (by have h:=HRa.out.1;omega)⟩
    have HU:=zh (And.intro hu1 hu2)
    clear hu1 hu2
    generalize w2=wD at *
    skip
    have hilt:(i:Int) < n+1:=by omega
    go_wp2_with fail
    refine jO [13,15] (StW wD gk ga kc ac (n+1) i 9 3 (splice ((Kl++[(⟨#[]⟩:ByteArray)]).map Value.string) (i+1) ((((Kl++[(⟨#[]⟩:ByteArray)]).map Value.string).drop i).take (n - i))) (splice ((Al++[0]).map (Value.int .i64)) (i+1) ((((Al++[0]).map (Value.int .i64)).drop i).take (n - i))) (.string k) (.int .i64 a)) (fun _ w w'=>jB w w') ((fun p (_:Nat→Value)=>(fun _ _ _=>True) p)) [[],[0],[0,1],[0,1,2],[],[],[5],[5,6],[5,6,7],[],[],[],[0,1,2,3,4,5,6,7,8,10],[0,1,2,3,4,5,6,7,8,10,12],[0,1,2,3,4,5,6,7,8,9,10,11,12,13],[0,1,2,3,4,5,6,7,8,9,10,11,12,13,14]] [[(58,4),(59,5),(60,6),(61,7),(62,8),(63,9),(64,10),(65,11)],[(54,0),(58,4),(59,5),(60,6),(61,7),(62,8),(63,9),(64,10),(65,11)],[(54,0),(55,1),(58,4),(59,5),(60,6),(61,7),(62,8),(63,9),(64,10),(65,11)],[(54,0),(55,1),(56,2),(58,4),(59,5),(60,6),(61,7),(62,8),(63,9),(64,10),(65,11)],[(54,0),(55,1),(56,2),(57,3),(59,5),(60,6),(61,7),(62,8),(63,9),(64,10),(65,11)],[(54,0),(55,1),(56,2),(57,3),(58,4),(63,9),(64,10),(65,11)],[(54,0),(55,1),(56,2),(57,3),(58,4),(59,5),(63,9),(64,10),(65,11)],[(54,0),(55,1),(56,2),(57,3),(58,4),(59,5),(60,6),(63,9),(64,10),(65,11)],[(54,0),(55,1),(56,2),(57,3),(58,4),(59,5),(60,6),(61,7),(63,9),(64,10),(65,11)],[(54,0),(55,1),(56,2),(57,3),(58,4),(59,5),(60,6),(61,7),(62,8),(64,10),(65,11),(66,12)],[(54,0),(55,1),(56,2),(57,3),(58,4),(59,5),(60,6),(61,7),(62,8),(63,9),(65,11)],[(54,0),(55,1),(56,2),(57,3),(58,4),(59,5),(60,6),(61,7),(62,8),(63,9),(64,10),(66,12)],[(54,0),(55,1),(56,2),(57,3),(58,4),(59,5),(60,6),(61,7),(62,8),(63,9),(64,10),(65,11)],[(54,0),(55,1),(56,2),(57,3),(58,4),(59,5),(60,6),(61,7),(62,8),(63,9),(64,10),(65,11),(66,12)],[(54,0),(55,1),(56,2),(57,3),(58,4),(59,5),(60,6),(61,7),(62,8),(63,9),(64,10),(65,11),(66,12)],[(54,0),(55,1),(56,2),(57,3),(58,4),(59,5),(60,6),(61,7),(62,8),(63,9),(64,10),(65,11),(66,12),(67,14)]] [(54,0),(55,1),(56,2),(57,3),(58,4),(59,5),(60,6),(61,7),(62,8),(63,9),(64,10),(65,11),(66,12),(67,14)]
     [IsP (jF p0),IsP (jF p0),IsP (jF p0),IsP (.slice (some ⟨gk,0,none⟩) (n+1) kc),IsP (.int .i64 i),IsP (jF p0),IsP (jF p0),IsP (.pointer (some ⟨p0,1,none⟩)),IsP (.slice (some ⟨ga,0,none⟩) (n+1) ac),IsP (.int .i64 i),IsP (.string k),IsP (.int .i64 a),IsP (.pointer (some ⟨gk,i,none⟩)),fun _ _ _=>True,IsP (.pointer (some ⟨ga,i,none⟩)),fun _ _ _=>True]
     zk (StW.grew) ((jB.refl _).drew) zk zk ⟨jC,jC,jC,jC,jC,jC,jC,jC,jC,jC,jC,jC,jC,⟨fun _ _ _ _ _ h=>h,fun _ _ _ _ _ h=>h⟩,jC,⟨fun _ _ _ _ _ h=>h,fun _ _ _ _ _ h=>h⟩,trivial⟩ rfl ?_ ?_
    ·intro y w2 hW hF
     simp only[kT,IsP,Nat.reduceAdd,List.length_cons,List.length_nil] at hF hW
     have h0:=hF.1
     have h1:=hF.2.1
     have h2:=hF.2.2.1
     have h3:=hF.2.2.2.1
     have h4:=hF.2.2.2.2.1
     have h5:=hF.2.2.2.2.2.1
     have h6:=hF.2.2.2.2.2.2.1
     have h7:=hF.2.2.2.2.2.2.2.1
     have h8:=hF.2.2.2.2.2.2.2.2.1
     have h9:=hF.2.2.2.2.2.2.2.2.2.1
     have h10:=hF.2.2.2.2.2.2.2.2.2.2.1
     have h11:=hF.2.2.2.2.2.2.2.2.2.2.2.1
     have h12:=hF.2.2.2.2.2.2.2.2.2.2.2.2.1
     have h14:=hF.2.2.2.2.2.2.2.2.2.2.2.2.2.2.1
     clear hF
     simp only[jA,Act.put,zq1,zq2,zq3,zq4,zq5]
     simp only[h0,h1,h2,h3,h4,h5,h6,h7,h8,h9,h10,h11,h12,h14]
     clear h0 h1 h2 h3 h4 h5 h6 h7 h8 h9 h10 h11 h12 h14
     obtain⟨hrk5,hra5,hm5⟩:=hW
     skip
     have HF:Hid (∃S',zO w2 p0 S' (JH l i (k,a))∧vS S S' w0 w2∧Moved S w0 w2):=by
      obtain⟨n1,n2,m1⟩:=HM1.out
      obtain⟨e1,e2,e3⟩:=HNE.out
      have hs1:=m1.size
      have hs2:=HMk.out.size
      have hs3:=HMa.out.size
      have hs4:=hm5.size
      have hlk:=vH hrk5 (g:=gk) rfl
      have hla:=vH hra5 (g:=ga) rfl
      have hok:yR w2 0 (.slice (some ⟨gk,0,none⟩) (n+1) kc) (J4 (JH l i (k,a))):=by
       unfold yR
       rw[iS,HLL.out.1,← dX Value.string Kl ⟨#[]⟩ k n i HN.out.1 HIN.out,KH,HN.out.1]
       exact hrk5
      have hoa:VE w2 0 (.slice (some ⟨ga,0,none⟩) (n+1) ac) (J9 (JH l i (k,a))):=by
       unfold VE
       rw[mB,HLL.out.2,← dX (Value.int .i64) Al 0 a n i HN.out.2 HIN.out,KH,HN.out.2]
       exact hra5
      refine⟨fun b=>b=p0∨b=gk∨b=ga,⟨.inl rfl,_,_,hm5.heap HST1.out (fun e=>e.elim (fun e=>e1 e.symm) (fun e=>e2 e.symm)),hok,hoa,fun g hg=>.inr (.inl (by cases hg;rfl)),fun g hg=>.inr (.inr (by cases hg;rfl))⟩,fun b hb=>?_,?_⟩
      ·rcases hb with rfl|rfl|rfl
       ·exact .inl HSS.out.1
       ·rcases n1 _ rfl with h|h
        ·exact .inl (HSS.out.2.1 _ h)
        ·exact .inr ⟨h,hlk⟩
       ·rcases n2 _ rfl with h|h
        ·exact .inl (HSS.out.2.2 _ h)
        ·exact .inr ⟨h,hla⟩
      ·have mS:Moved S w0 wB:=m1.mono (fun j _ hj=>by
        rcases hj with rfl|hj|hj
        ·exact HSS.out.1
        ·exact HSS.out.2.1 _ hj
        ·exact HSS.out.2.2 _ hj)
       have hgk:gk < w0.heap.size→S gk:=fun h=>(n1 gk rfl).elim (fun e=>HSS.out.2.1 _ e) (fun e=>by omega)
       have hga:ga < w0.heap.size→S ga:=fun h=>(n2 ga rfl).elim (fun e=>HSS.out.2.2 _ e) (fun e=>by omega)
       exact ((mS.trans HMk.out (fun j hj e=>e ▸ hgk (e ▸ hj))).trans HMa.out (fun j hj e=>e ▸ hga (e ▸ hj))).trans hm5 (fun j hj e=>e.elim (fun e=>e ▸ hgk (e ▸ hj)) (fun e=>e ▸ hga (e ▸ hj)))
     clear hrk5 hra5 hm5
     go_wp2
     go_end0
     exact⟨rfl,HF.out⟩
    refine⟨zqd,zqd,zqd,?_⟩
    refine⟨?_,?_⟩
    ·refine jJ 0 0 ?_
     intro y w2 p hlo hhi hW hD K hK
     obtain rfl:p=0:=by omega
     have dd:=jB.cell hW HBk.out
     exact zqr
    refine⟨zqd,zqd,zqd,zqd,?_⟩
    refine⟨?_,?_⟩
    ·refine jJ 0 0 ?_
     intro y w2 p hlo hhi hW hD K hK
     obtain rfl:p=0:=by omega
     have dd:=jB.cell hW HBa.out
     exact zqr
    refine⟨zqd,zqd,zqd,zqd,?_⟩
    refine⟨?_,?_⟩
    ·refine jP 0 rfl ?_
     intro y w2 hW hD K hK
     have hr0:=kU HRk.out hW
     have dd:=aT hr0 HU.out.1
     have ff:=aU hr0 i
     simp only[jU,zq4,zq5,IsP] at hD
     have h0:=hD.1
     have h1:=hD.2.1
     have h2:=hD.2.2.1
     have h3:=hD.2.2.2.1
     have h4:=hD.2.2.2.2.1
     have h5:=hD.2.2.2.2.2.1
     have h6:=hD.2.2.2.2.2.2.1
     have h7:=hD.2.2.2.2.2.2.2.1
     have h8:=hD.2.2.2.2.2.2.2.2.1
     have h10:=hD.2.2.2.2.2.2.2.2.2.1
     have h12:=hD.2.2.2.2.2.2.2.2.2.2.1
     clear hD
     generalize hAA:jA y _ _=AA at hK⊢
     simp only[jA,Act.put,zq1,zq2,zq3,zq4,zq5,IsP] at hAA
     subst hAA
     simp only[zq4,zq5,IsP] at hK
     simp only[h0,h1,h2,h3,h4,h5,h6,h7,h8,h10,h12] at hK⊢
     clear h0 h1 h2 h3 h4 h5 h6 h7 h8 h10 h12
     refine jG ?_
     go_simp
     exact hK _ undef _ rfl trivial ⟨dV hr0 i (.string k),(zF w2 gk i _).owns (kU HRa.out hW) (fun q hq e=>by cases hq;exact HNE.out.2.2 e.symm),(Moved.of_grew hW).trans (zF w2 gk i _) (fun _ _ h=>.inl h)⟩ trivial
    refine⟨zqd,?_⟩
    refine⟨?_,?_⟩
    ·refine jP 1 rfl ?_
     intro y w2 hW hD K hK
     have hr0:=hW.2.1
     have dd:=aT hr0 HU.out.2
     have ff:=aU hr0 i
     simp only[jU,zq4,zq5,IsP] at hD
     have h0:=hD.1
     have h1:=hD.2.1
     have h2:=hD.2.2.1
     have h3:=hD.2.2.2.1
     have h4:=hD.2.2.2.2.1
     have h5:=hD.2.2.2.2.2.1
     have h6:=hD.2.2.2.2.2.2.1
     have h7:=hD.2.2.2.2.2.2.2.1
     have h8:=hD.2.2.2.2.2.2.2.2.1
     have h9:=hD.2.2.2.2.2.2.2.2.2.1
     have h10:=hD.2.2.2.2.2.2.2.2.2.2.1
     have h11:=hD.2.2.2.2.2.2.2.2.2.2.2.1
     have h12:=hD.2.2.2.2.2.2.2.2.2.2.2.2.1
     have h14:=hD.2.2.2.2.2.2.2.2.2.2.2.2.2.2.1
     clear hD
     generalize hAA:jA y _ _=AA at hK⊢
     simp only[jA,Act.put,zq1,zq2,zq3,zq4,zq5,IsP] at hAA
     subst hAA
     simp only[zq4,zq5,IsP] at hK
     simp only[h0,h1,h2,h3,h4,h5,h6,h7,h8,h9,h10,h11,h12,h14] at hK⊢
     clear h0 h1 h2 h3 h4 h5 h6 h7 h8 h9 h10 h11 h12 h14
     refine jG ?_
     go_simp
     exact hK _ undef _ rfl trivial ⟨(zF w2 ga i _).owns hW.1 (fun q hq e=>by cases hq;exact HNE.out.2.2 e),dV hr0 i (.int .i64 a),hW.2.2.trans (zF w2 ga i _) (fun _ _ h=>.inr h)⟩ trivial
    trivial
   refine⟨zqd,zqd,zqd,?_⟩
   refine⟨?_,?_⟩
   ·refine jJ 0 0 ?_
    intro y w2 p hlo hhi hW hD K hK
    obtain rfl:p=0:=by omega
    have dd:=jB.cell hW HBa.out
    exact zqr
   refine⟨zqd,zqd,?_⟩
   refine⟨?_,?_⟩
   ·refine jJ 0 0 ?_
    intro y w2 p hlo hhi hW hD K hK
    simp only[jU,zq4,zq5,IsP] at hD
    generalize hAA:jA y _ _=AA at hK⊢
    simp only[jA,Act.put,zq1,zq2,zq3,zq4,zq5,IsP] at hAA
    subst hAA
    simp only[zq4,zq5,IsP] at hK
    simp only[hD] at hK⊢
    clear hD
    refine jG ?_
    go_simp
    exact hK _ _ _ rfl (jB.refl _) ⟨_,_,rfl,fun h=>if_neg (by omega)⟩
   refine⟨zqd,zqd,zqd,?_⟩
   refine⟨?_,?_⟩
   ·refine jJ 0 0 ?_
    intro y w2 p hlo hhi hW hD K hK
    obtain rfl:p=0:=by omega
    have dd:=jB.cell hW HBa.out
    exact zqr
   refine⟨zqd,zqd,?_⟩
   refine⟨?_,?_⟩
   ·refine jP 0 rfl ?_
    intro y w2 hW hD K hK
    simp only[jU,zq4,zq5,IsP] at hD
    have h0:=hD.1
    have h1:=hD.2.1
    have h2:=hD.2.2.1
    have h3:=hD.2.2.2.1
    have h4:=hD.2.2.2.2.1
    have h5:=hD.2.2.2.2.2.1
    have h6:=hD.2.2.2.2.2.2.1
    have h7:=hD.2.2.2.2.2.2.2.1
    have h8:=hD.2.2.2.2.2.2.2.2.1
    have h9:=hD.2.2.2.2.2.2.2.2.2.1
    have h10:=hD.2.2.2.2.2.2.2.2.2.2.1
    have h11:=hD.2.2.2.2.2.2.2.2.2.2.2.1
    have h12:=hD.2.2.2.2.2.2.2.2.2.2.2.2.1
    clear hD
    generalize hAA:jA y _ _=AA at hK⊢
    simp only[jA,Act.put,zq1,zq2,zq3,zq4,zq5,IsP] at hAA
    subst hAA
    simp only[zq4,zq5,IsP] at hK
    simp only[h0,h1,h2,h3,h4,h5,h7,h8,h9,h10,h11,h12] at hK⊢
    clear h0 h1 h2 h3 h4 h5 h7 h8 h9 h10 h11 h12
    obtain⟨da6,dc6,e6,hda6⟩:=h6
    rw[e6] at hK⊢
    clear e6
    refine jG ?_
    refine ZG w2 _ _ 44 rfl 3 underlying44 SZa ga n ac ((Al++[0]).map (Value.int .i64)) (kU HRa.out hW) (by intro u hu;obtain⟨_,_,rfl⟩:=List.mem_map.1 hu;rfl) i HIN.out _ _ _ hda6 rfl rfl ?_
    intro v w' ho hm
    exact hK _ _ _ rfl trivial ⟨ho,(Moved.of_grew hW).trans hm (fun _ _ h=>h)⟩ trivial
   trivial
  refine⟨zqd,zqd,zqd,?_⟩
  refine⟨?_,?_⟩
  ·refine jJ 0 0 ?_
   intro y w2 p hlo hhi hW hD K hK
   obtain rfl:p=0:=by omega
   have dd:=jB.cell hW HBk.out
   exact zqr
  refine⟨zqd,zqd,?_⟩
  refine⟨?_,?_⟩
  ·refine jJ 0 0 ?_
   intro y w2 p hlo hhi hW hD K hK
   simp only[jU,zq4,zq5,IsP] at hD
   generalize hAA:jA y _ _=AA at hK⊢
   simp only[jA,Act.put,zq1,zq2,zq3,zq4,zq5,IsP] at hAA
   subst hAA
   simp only[zq4,zq5,IsP] at hK
   simp only[hD] at hK⊢
   clear hD
   refine jG ?_
   go_simp
   exact hK _ _ _ rfl (jB.refl _) ⟨_,_,rfl,fun h=>if_neg (by omega)⟩
  refine⟨zqd,zqd,zqd,?_⟩
  refine⟨?_,?_⟩
  ·refine jJ 0 0 ?_
   intro y w2 p hlo hhi hW hD K hK
   obtain rfl:p=0:=by omega
   have dd:=jB.cell hW HBk.out
   exact zqr
  refine⟨zqd,zqd,?_⟩
  refine⟨?_,?_⟩
  ·refine jP 0 rfl ?_
   intro y w2 hW hD K hK
   simp only[jU,zq4,zq5,IsP] at hD
   have h0:=hD.1
   have h1:=hD.2.1
   have h2:=hD.2.2.1
   have h3:=hD.2.2.2.1
   have h4:=hD.2.2.2.2.1
   have h5:=hD.2.2.2.2.2.1
   have h6:=hD.2.2.2.2.2.2.1
   have h7:=hD.2.2.2.2.2.2.2.1
   have h8:=hD.2.2.2.2.2.2.2.2.1
   have h9:=hD.2.2.2.2.2.2.2.2.2.1
   have h10:=hD.2.2.2.2.2.2.2.2.2.2.1
   have h11:=hD.2.2.2.2.2.2.2.2.2.2.2.1
   have h12:=hD.2.2.2.2.2.2.2.2.2.2.2.2.1
   clear hD
   generalize hAA:jA y _ _=AA at hK⊢
   simp only[jA,Act.put,zq1,zq2,zq3,zq4,zq5,IsP] at hAA
   subst hAA
   simp only[zq4,zq5,IsP] at hK
   simp only[h0,h1,h2,h3,h4,h5,h7,h8,h9,h10,h11,h12] at hK⊢
   clear h0 h1 h2 h3 h4 h5 h7 h8 h9 h10 h11 h12
   obtain⟨da6,dc6,e6,hda6⟩:=h6
   rw[e6] at hK⊢
   clear e6
   refine jG ?_
   refine ZG w2 _ _ 34 rfl 9 underlying34 SZk gk n kc ((Kl++[(⟨#[]⟩:ByteArray)]).map Value.string) (kU HRk.out hW) (by intro u hu;obtain⟨_,_,rfl⟩:=List.mem_map.1 hu;rfl) i HIN.out _ _ _ hda6 rfl rfl ?_
   intro v w' ho hm
   exact hK _ _ _ rfl trivial ⟨ho,(Moved.of_grew hW).trans hm (fun _ _ h=>h)⟩ trivial
  trivial
 refine⟨zqd,zqd,zqd,zqd,zqd,?_⟩
 refine⟨?_,?_⟩
 ·refine jJ 0 0 ?_
  intro y w2 p hlo hhi hW hD K hK
  obtain rfl:p=0:=by omega
  have d0:=jB.cell hW HC.out.1
  exact zqr
 refine⟨?_,?_⟩
 ·refine jJ 0 0 ?_
  intro y w2 p hlo hhi hW hD K hK
  clear hD
  generalize hAA:jA y _ _=AA at hK⊢
  simp only[jA,Act.put,zq1,zq2,zq3,zq4,zq5,IsP] at hAA
  subst hAA
  simp only[zq4,zq5,IsP] at hK
  refine jG ?_
  go_simp
  exact hK _ _ _ rfl ((jB.refl _).alloc _) (fun _=>⟨_,rfl,HSZ p w2 hW,heap_alloc_new _ _⟩)
 refine⟨?_,?_⟩
 ·refine jP 0 rfl ?_
  intro y w2 hW hD K hK
  simp only[jU,zq4,zq5,IsP] at hD
  have h2:=hD.1
  have h3:=hD.2.1
  have h4:=hD.2.2.1
  have h5:=hD.2.2.2.1
  have h6:=hD.2.2.2.2.1
  clear hD
  generalize hAA:jA y _ _=AA at hK⊢
  simp only[jA,Act.put,zq1,zq2,zq3,zq4,zq5,IsP] at hAA
  subst hAA
  simp only[zq4,zq5,IsP] at hK
  simp only[h2,h3,h4,h5] at hK⊢
  clear h2 h3 h4 h5
  refine jG ?_
  obtain⟨g6,e6,n6,hh6⟩:=h6 (Nat.le_refl _)
  rw[e6] at hK⊢
  refine mY w2 _ _ rfl kv Kl rfl (kU HOK.out hW) g6 ⟨#[]⟩ rfl (jK hh6 0 _ rfl) (by have:=HLN.out;omega) ?_
  intro v' w' ho hgr hnx
  have hm:Moved (fun k=>kv.ownBlock=some k) w2 w':=(Moved.of_grown hgr).mono (fun j _ hj=>hj.symm)
  refine hK _ _ _ rfl hm ⟨?_,?_,?_⟩ ⟨by omega,fun _=>⟨ho,hnx.earlier hW.size⟩⟩
  ·exact hm.heap (hW.heap HST.out) (fun e=>zR HOK.out HST.out (by decide) e)
  ·exact hm.owns (kU HOA.out hW) (fun k hk hk2=>ZN HOK.out HOA.out (by decide) hk2 hk)
  ·exact (Moved.of_grew hW).trans hm (fun j _ hj=>.inr (.inl hj))
 refine⟨zqd,zqd,zqd,?_⟩
 refine⟨?_,?_⟩
 ·refine jJ 0 1 ?_
  intro y w2 p hlo hhi hW hD K hK
  have d1:w2.cell? ⟨p0,1,none⟩=some av:=by
   rcases (show p=0∨p=1 by omega) with rfl|rfl
   ·exact jB.cell hW HC.out.2.1
   ·exact jK hW.1 1 _ rfl
  exact zqr
 refine⟨?_,?_⟩
 ·refine jJ 0 1 ?_
  intro y w2 p hlo hhi hW hD K hK
  clear hD
  generalize hAA:jA y _ _=AA at hK⊢
  simp only[jA,Act.put,zq1,zq2,zq3,zq4,zq5,IsP] at hAA
  subst hAA
  simp only[zq4,zq5,IsP] at hK
  refine jG ?_
  go_simp
  exact hK _ _ _ rfl ((jB.refl _).alloc _) (fun _=>⟨_,rfl,HSZ p w2 hW,heap_alloc_new _ _⟩)
 refine⟨?_,?_⟩
 ·refine jP 1 rfl ?_
  intro y w2 hW hD K hK
  simp only[jU,zq4,zq5,IsP] at hD
  have h2:=hD.1
  have h3:=hD.2.1
  have h4:=hD.2.2.1
  have h5:=hD.2.2.2.1
  have h6:=hD.2.2.2.2.1
  have h7:=hD.2.2.2.2.2.1
  have h8:=hD.2.2.2.2.2.2.1
  have h9:=hD.2.2.2.2.2.2.2.1
  have h10:=hD.2.2.2.2.2.2.2.2.1
  have h11:=hD.2.2.2.2.2.2.2.2.2.1
  have h12:=hD.2.2.2.2.2.2.2.2.2.2.1
  clear hD
  generalize hAA:jA y _ _=AA at hK⊢
  simp only[jA,Act.put,zq1,zq2,zq3,zq4,zq5,IsP] at hAA
  subst hAA
  simp only[zq4,zq5,IsP] at hK
  simp only[h2,h3,h4,h5,h8,h9,h10,h11] at hK⊢
  clear h2 h3 h4 h5 h8 h9 h10 h11
  refine jG ?_
  obtain⟨g12,e12,n12,hh12⟩:=h12 (Nat.le_refl _)
  rw[e12] at hK⊢
  refine mZ w2 _ _ rfl av Al rfl hW.2.1 g12 0 rfl (jK hh12 0 _ rfl) (by have:=HLN.out;omega) ?_
  intro v' w' ho hgr hnx
  have hm:Moved (fun k=>av.ownBlock=some k) w2 w':=(Moved.of_grown hgr).mono (fun j _ hj=>hj.symm)
  refine hK _ _ _ rfl ⟨hW.2.1,hm⟩ ⟨?_,?_⟩ ⟨Nat.le_refl _,fun _=>⟨ho,hnx.earlier hW.2.2.size⟩⟩
  ·exact hm.heap hW.1 (fun e=>zR hW.2.1 hW.1 (by decide) e)
  ·exact hW.2.2.trans hm (fun j _ hj=>.inr (.inr hj))
 refine⟨zqd,zqd,?_⟩
 refine⟨?_,?_⟩
 ·refine jP 2 rfl ?_
  intro y w2 hW hD K hK
  have f0:=jE hW.1 0
  have d0:=jK hW.1 0 _ rfl
  simp only[jU,zq4,zq5,IsP] at hD
  have h0:=hD.1
  have h2:=hD.2.1
  have h3:=hD.2.2.1
  have h4:=hD.2.2.2.1
  have h5:=hD.2.2.2.2.1
  have h6:=hD.2.2.2.2.2.1
  have h7:=hD.2.2.2.2.2.2.1
  have h8:=hD.2.2.2.2.2.2.2.1
  have h9:=hD.2.2.2.2.2.2.2.2.1
  have h10:=hD.2.2.2.2.2.2.2.2.2.1
  have h11:=hD.2.2.2.2.2.2.2.2.2.2.1
  have h12:=hD.2.2.2.2.2.2.2.2.2.2.2.1
  have h13:=hD.2.2.2.2.2.2.2.2.2.2.2.2.1
  have h14:=hD.2.2.2.2.2.2.2.2.2.2.2.2.2.1
  have h15:=hD.2.2.2.2.2.2.2.2.2.2.2.2.2.2.1
  clear hD
  generalize hAA:jA y _ _=AA at hK⊢
  simp only[jA,Act.put,zq1,zq2,zq3,zq4,zq5,IsP] at hAA
  subst hAA
  simp only[zq4,zq5,IsP] at hK
  simp only[h0,h2,h3,h4,h5,h8,h9,h10,h11,h14,h15] at hK⊢
  clear h0 h2 h3 h4 h5 h8 h9 h10 h11 h14 h15
  have hq7:=h7.2 (by omega)
  obtain⟨a7,c7,e7,_,_,_⟩:=j6 hq7.1
  replace e7:y 7=.slice a7 (Kl.length+1) c7:=by rw[e7];simp
  rw[e7] at hK hq7⊢
  clear e7 h7
  refine jG ?_
  go_simp
  have hh:(w2.setCell ⟨p0,0,none⟩ (.slice a7 (Kl.length+1) c7)).heap[p0]? = some (dU (.slice a7 (Kl.length+1) c7) av):=by have:=heap_setCell_same w2 p0 0 _ _ (.slice a7 (Kl.length+1) c7) hW.1;simpa using this
  refine hK _ undef _ rfl ⟨⟨_,_,hW.1⟩,zF w2 p0 0 _⟩ ⟨⟨jK hh 1 _ rfl,jE hh 1⟩,_,hh,?_,hq7.2,?_⟩ trivial
  ·exact (zF w2 p0 0 _).owns hq7.1 (fun k hk e=>zR hq7.1 hW.1 (by decide) (by rw[hk,e]))
  ·exact hW.2.trans (zF w2 p0 0 _) (fun j _ hj=>.inl hj)
 refine⟨zqd,zqd,?_⟩
 refine⟨?_,?_⟩
 ·refine jP 3 rfl ?_
  intro y w2 hW hD K hK
  have f1:=hW.1.2
  have d1:=hW.1.1
  simp only[jU,zq4,zq5,IsP] at hD
  have h0:=hD.1
  have h1:=hD.2.1
  have h2:=hD.2.2.1
  have h3:=hD.2.2.2.1
  have h4:=hD.2.2.2.2.1
  have h5:=hD.2.2.2.2.2.1
  have h6:=hD.2.2.2.2.2.2.1
  have h7:=hD.2.2.2.2.2.2.2.1
  have h8:=hD.2.2.2.2.2.2.2.2.1
  have h9:=hD.2.2.2.2.2.2.2.2.2.1
  have h10:=hD.2.2.2.2.2.2.2.2.2.2.1
  have h11:=hD.2.2.2.2.2.2.2.2.2.2.2.1
  have h12:=hD.2.2.2.2.2.2.2.2.2.2.2.2.1
  have h13:=hD.2.2.2.2.2.2.2.2.2.2.2.2.2.1
  have h14:=hD.2.2.2.2.2.2.2.2.2.2.2.2.2.2.1
  have h15:=hD.2.2.2.2.2.2.2.2.2.2.2.2.2.2.2.1
  have h17:=hD.2.2.2.2.2.2.2.2.2.2.2.2.2.2.2.2.2.1
  have h18:=hD.2.2.2.2.2.2.2.2.2.2.2.2.2.2.2.2.2.2.1
  clear hD
  generalize hAA:jA y _ _=AA at hK⊢
  simp only[jA,Act.put,zq1,zq2,zq3,zq4,zq5,IsP] at hAA
  subst hAA
  simp only[zq4,zq5,IsP] at hK
  simp only[h0,h1,h2,h3,h4,h5,h8,h9,h10,h11,h14,h15,h17,h18] at hK⊢
  clear h0 h1 h2 h3 h4 h5 h8 h9 h10 h11 h14 h15 h17 h18
  have hq13:=h13.2 (by omega)
  obtain⟨a13,c13,e13,_,_,_⟩:=j6 hq13.1
  replace e13:y 13=.slice a13 (Al.length+1) c13:=by rw[e13];simp
  rw[e13] at hK hq13⊢
  clear e13 h13
  refine jG ?_
  go_simp
  refine hK _ undef _ rfl ?_ ?_ trivial
  ·obtain⟨_,kv3,hW3⟩:=hW
   exact⟨⟨_,_,hW3.1⟩,zF w2 p0 1 _⟩
  ·obtain⟨_,kv3,hW3⟩:=hW
   refine⟨kv3,_,?_,?_,hW3.2.2.1,?_,hq13.2,?_⟩
   ·have:=heap_setCell_same w2 p0 1 _ _ (.slice a13 (Al.length+1) c13) hW3.1;simpa using this
   ·exact (zF w2 p0 1 _).owns hW3.2.1 (fun k hk e=>zR hW3.2.1 hW3.1 (by decide) (by rw[hk,e]))
   ·exact (zF w2 p0 1 _).owns hq13.1 (fun k hk e=>zR hq13.1 hW3.1 (by decide) (by rw[hk,e]))
   ·exact hW3.2.2.2.trans (zF w2 p0 1 _) (fun j _ hj=>.inl hj)
 trivial
def KO (p:Nat) (S:Nat→Prop) (l:zQ) (w w':World):Prop:=∃S',zO w' p S' l∧vS S S' w w'∧Moved S w w'
theorem KO.refl {w:World} {p:Nat} {S:Nat→Prop} {l:zQ} (h:zO w p S l):KO p S l w w:=⟨S,h,vS.refl _ _ _,Moved.refl _ _⟩
theorem KO.grew {w w':World} {p:Nat} {S:Nat→Prop} {l:zQ} (h:zO w p S l) (hg:jB w w'):KO p S l w w':=⟨S,h.grew hg,vS.refl _ _ _,Moved.of_grew hg⟩
theorem VH {w:World} {p:Nat} {S:Nat→Prop} {l:zQ} (k:ByteArray) (a:Int) (h:zO w p S l) (hl:l.length≤1048577) :
 Calls prog 113 #[jF p,.string k,.int .i64 a] w fun r w'=>r=.returned (.int .i64 (qK k a l))∧KO p S (zE k a l) w w':=by
 have HB:=zh h
 clear h
 by_cases h0:a < 0
 ·have HE:Hid (qK k a l=2∧zE k a l=l):=by show _∧_;unfold qK zE;rw[if_pos (.inl h0),if_pos (.inl h0)];exact⟨rfl,rfl⟩
  rw[HE.out.1,HE.out.2]
  go_enter func113,ntmps113
  go_wp2_with fail
  refine (JL HB.out).mono ?_
  rintro r w' ⟨rfl,rfl⟩
  go_wp2
  go_ret
  exact⟨rfl,KO.refl HB.out⟩
 ·by_cases h1:9007199254740991 < a
  ·have HE:Hid (qK k a l=2∧zE k a l=l):=by show _∧_;unfold qK zE;rw[if_pos (.inr h1),if_pos (.inr h1)];exact⟨rfl,rfl⟩
   rw[HE.out.1,HE.out.2]
   go_enter func113,ntmps113
   go_wp2_with fail
   refine (JL HB.out).mono ?_
   rintro r w' ⟨rfl,rfl⟩
   go_wp2
   go_ret
   exact⟨rfl,KO.refl HB.out⟩
  ·have hn:¬(a < 0∨9007199254740991 < a):=fun h=>h.elim h0 h1
   cases hp:VZ l k with
   | true=>
    have HE:Hid (qK k a l=71∧zE k a l=l):=by show _∧_;unfold qK zE;rw[if_neg hn,if_neg hn,hp];exact⟨rfl,rfl⟩
    have HP:=zh hp
    rw[HE.out.1,HE.out.2]
    clear hp hn
    go_enter func113,ntmps113
    go_wp2_with fail
    refine (JL HB.out).mono ?_
    rintro r w' ⟨rfl,rfl⟩
    go_wp2_with fail
    refine (YU k HB.out).mono ?_
    rw[HP.out]
    rintro r w2 ⟨rfl,hg⟩
    have HG:=zh hg
    clear hg
    go_wp2
    go_ret
    exact⟨rfl,KO.grew HB.out HG.out⟩
   | false=>
    have HE:Hid (qK k a l=0∧zE k a l=JH l (yH l k) (k,a)):=by show _∧_;unfold qK zE;rw[if_neg hn,if_neg hn,hp];exact⟨rfl,rfl⟩
    have HP:=zh hp
    have HL:=zh (iT l k)
    rw[HE.out.1,HE.out.2]
    have HPA:=zh (YU k HB.out)
    rw[HP.out] at HPA
    clear hp hn HP HE
    generalize yH l k=i at *
    go_enter func113,ntmps113
    go_wp2_with fail
    refine (JL HB.out).mono ?_
    rintro r w' ⟨rfl,rfl⟩
    go_wp2_with fail
    refine HPA.out.mono ?_
    rintro r w2 ⟨rfl,hg⟩
    have HG:=zh hg
    clear hg
    go_wp2_with fail
    refine (lay_any i k a (HB.out.grew HG.out) HL.out hl).mono ?_
    rintro r w3 ⟨rfl,ht⟩
    have HT:=zh ht
    clear ht
    go_wp2
    go_ret
    obtain⟨S',k1,k2,k3⟩:=HT.out
    exact⟨rfl,S',k1,fun b hb=>(k2 b hb).imp id (fun h=>⟨Nat.le_trans HG.out.size h.1,h.2⟩),(Moved.of_grew (S:=S) HG.out).trans' k3⟩
def YV (w:World) (p:Nat) (S:Nat→Prop) (most:Int) (s:St):Prop:=S p∧∃o,kL 0 w p o s.1 most s.2∧∀k,o=some k→S k
def qA (l:List (Int × ByteArray)):List (Int × Value):=l.map fun q=>(q.1,.string q.2)
def JY (w:World) (r:Nat) (S:Nat→Prop) (l:List (Int × ByteArray)):Prop:=S r∧V5 w r (qA l)
section
variable {w w':World} {p r:Nat} {S S' T:Nat→Prop} {most:Int} {s s':St} {l:List (Int × ByteArray)}
theorem YV.kept (h:YV w p S most s) (hm:Moved T w w') (hd:∀k,S k→¬T k):YV w' p S most s:=by
 obtain⟨h0,o,h1,h2⟩:=h
 exact⟨h0,o,h1.kept hm (hd _ h0) (fun k hk=>hd k (h2 k hk)),h2⟩
theorem YV.mono (h:YV w p S most s) (hs:∀k,k < w.heap.size→S k→S' k):YV w p S' most s:=by
 obtain⟨h0,o,h1,h2⟩:=h
 exact⟨hs _ (h1.lt _ (.inl rfl)) h0,o,h1,fun k hk=>hs k (h1.lt _ (.inr hk.symm)) (h2 k hk)⟩
theorem YV.turn {o:Option Nat} (h0:S p) (h1:kL 0 w p o s.1 most s.2) (h2:∀k,o=some k→S k) (ht:jY 0 w w' p o most s'):∃S',YV w' p S' most s'∧vS S S' w w'∧Moved S w w':=by
 obtain⟨o',k1,k2,k3⟩:=ht
 refine⟨y6 p o',⟨.inl rfl,o',k1,fun k hk=>.inr hk.symm⟩,fun k hk=>?_,k3.mono (fun j _ hj=>hj.elim (fun e=>e ▸ h0) (fun e=>h2 j e.symm))⟩
 rcases hk with rfl|hk
 ·exact .inl h0
 ·rcases k2 k hk.symm with e|e
  ·exact .inl (h2 k e)
  ·exact .inr ⟨e,k1.lt k (.inr hk)⟩
theorem JY.kept (h:JY w r S l) (hm:Moved T w w') (hd:∀k,S k→¬T k):JY w' r S l:=⟨h.1,hm.heap h.2 (hd _ h.1)⟩
theorem JY.mono (h:JY w r S l) (hs:∀k,k < w.heap.size→S k→S' k):JY w r S' l:=⟨hs _ (Array.getElem?_eq_some_iff.1 h.2).1 h.1,h.2⟩
end
structure kE where
 p:Nat
 b:Nat
 s:Nat
 k:Nat
 t:Nat
 l:Nat
 m:Nat
abbrev ZO (q:kE) (flags:Int) (vv:Value) (e:Int):Obj:=.cells #[jF q.b,jF q.s,.int .i64 e,.int .i64 flags,jF q.k,jF q.t,jF q.l,.map (some q.m),vv,.bool true] 55 (0,0)
structure BS.Ok (most:Int) (x:BS):Prop where
 m0:0≤most
 m1:most≤1048576
 len:(x.s.1.length:Int)≤most
 stk:x.stk.length≤65536
 okS:∀v∈x.stk,okV v
 keys:x.keys.length≤1048577
 texts:x.texts.length≤1048577
 lists:x.lists.length≤1048577
 vals:x.vals.length≤1048577
 okL:∀v∈x.vals,okV v
 okK:∀z∈x.keys,0≤z.2∧z.2≤9007199254740991
 okT:∀z∈x.texts,0≤z.2∧z.2≤9007199254740991
def KP (w:World) (q:kE) (flags:Int) (S:Nat→Prop) (e:Int) (vals:List V3):Prop:=S q.p∧∃vv,w.heap[q.p]? = some (ZO q flags vv e)∧jQ w 0 vv vals∧∀g,vv.ownBlock=some g→S g
structure Bd (B:Nat) (q:kE) (most flags:Int) (κ:Nat→Nat) (x:BS) (w:World):Prop where
 lt:∀k,κ k≠0→B≤k∧k < w.heap.size
 ok:x.Ok most
 self:KP w q flags (fun k=>κ k=1) x.e x.vals
 buf:YV w q.b (fun k=>κ k=2) most x.s
 stk:qN w q.s (fun k=>κ k=3) x.stk
 keys:zO w q.k (fun k=>κ k=4) x.keys
 texts:zO w q.t (fun k=>κ k=5) x.texts
 lists:zO w q.l (fun k=>κ k=6) x.lists
 names:JY w q.m (fun k=>κ k=7) x.names
def Tn (κ κ':Nat→Nat) (w w':World):Prop:=Moved (fun k=>κ k≠0) w w'∧∀k,k < w.heap.size→κ' k=κ k
def j1 (B:Nat) (q:kE) (most flags:Int) (κ:Nat→Nat) (x:BS) (w w':World):Prop:=∃κ',Bd B q most flags κ' x w'∧Tn κ κ' w w'
section
variable {B:Nat} {q:kE} {most flags:Int} {κ κ':Nat→Nat} {x x':BS} {w w' w2:World}
theorem KP.kept {S T:Nat→Prop} {e:Int} {vals:List V3} (h:KP w q flags S e vals) (hm:Moved T w w') (hd:∀k,S k→¬T k):KP w' q flags S e vals:=by
 obtain⟨h0,vv,h1,h2,h3⟩:=h
 exact⟨h0,vv,hm.heap h1 (hd _ h0),hm.owns h2 (fun k hk=>hd k (h3 k hk)),h3⟩
theorem KP.mono {S S':Nat→Prop} {e:Int} {vals:List V3} (h:KP w q flags S e vals) (hs:∀k,k < w.heap.size→S k→S' k):KP w q flags S' e vals:=by
 obtain⟨h0,vv,h1,h2,h3⟩:=h
 exact⟨hs _ (Array.getElem?_eq_some_iff.1 h1).1 h0,vv,h1,h2,fun g hg=>hs g (vH h2 hg) (h3 g hg)⟩
theorem Tn.refl (κ:Nat→Nat) (w:World):Tn κ κ w w:=⟨Moved.refl _ _,fun _ _=>rfl⟩
theorem Bd.grew (h:Bd B q most flags κ x w) (hg:jB w w'):Bd B q most flags κ x w':=
 have hm:Moved (fun _=>False) w w':=Moved.of_grew hg
 ⟨fun k hk=>⟨(h.lt k hk).1,Nat.lt_of_lt_of_le (h.lt k hk).2 hg.size⟩,h.ok,h.self.kept hm (fun _ _ h=>h),h.buf.kept hm (fun _ _ h=>h),h.stk.kept hm (fun _ _ h=>h),h.keys.kept hm (fun _ _ h=>h),h.texts.kept hm (fun _ _ h=>h),h.lists.kept hm (fun _ _ h=>h),h.names.kept hm (fun _ _ h=>h)⟩
theorem Bd.refl (h:Bd B q most flags κ x w):j1 B q most flags κ x w w:=⟨κ,h,Tn.refl _ _⟩
theorem Tn.trans {κ'':Nat→Nat} (h:Tn κ κ' w w') (k:Tn κ' κ'' w' w2):Tn κ κ'' w w2:=
 ⟨h.1.trans k.1 (fun j hj hk=>by rwa [h.2 j hj] at hk),fun j hj=>(k.2 j (Nat.lt_of_lt_of_le hj h.1.size)).trans (h.2 j hj)⟩
theorem Tn.of_grew (hg:jB w w'):Tn κ κ w w':=⟨Moved.of_grew hg,fun _ _=>rfl⟩
theorem j1.after (hg:jB w w') (h:j1 B q most flags κ x w' w2):j1 B q most flags κ x w w2:=by
 obtain⟨κ1,h1,h2⟩:=h
 exact⟨κ1,h1,(Tn.of_grew hg).trans h2⟩
def v6 (κ:Nat→Nat) (c:Nat) (w w':World) (k:Nat):Nat:=if k < w.heap.size then κ k else if k < w'.heap.size then c else 0
theorem aV {c k:Nat} (h:k < w.heap.size):v6 κ c w w' k=κ k:=if_pos h
theorem vT (h:∀k,κ k≠0→B≤k∧k < w.heap.size) (hB:B≤w.heap.size) (hs:w.heap.size≤w'.heap.size) {c:Nat}:∀k,v6 κ c w w' k≠0→B≤k∧k < w'.heap.size:=by
 intro k hk
 unfold v6 at hk
 split at hk
 ·have:=h k hk;exact⟨this.1,by omega⟩
 ·split at hk
  ·exact⟨by omega,by assumption⟩
  ·exact absurd rfl hk
theorem jR {c d:Nat} (hd:d≠0) (h:∀k,κ k≠0→B≤k∧k < w.heap.size) (k:Nat) (hk:κ k=d):v6 κ c w w' k=d:=by
 rw[aV (h k (by rw[hk];exact hd)).2];exact hk
theorem vK {c:Nat} {S':Nat→Prop} (hc:c≠0) (h:∀k,κ k≠0→B≤k∧k < w.heap.size) (hn:vS (fun k=>κ k=c) S' w w') (k:Nat) (hk:S' k):v6 κ c w w' k=c:=by
 rcases hn k hk with e|⟨e1,e2⟩
 ·exact jR hc h k e
 ·unfold v6;rw[if_neg (by omega),if_pos e2]
theorem JZ {c:Nat} (hc:c≠0) (hm:Moved (fun k=>κ k=c) w w'):Tn κ (v6 κ c w w') w w':=⟨hm.mono (fun j _ hj=>by show κ j≠0;rw[hj];exact hc),fun k hk=>aV hk⟩
theorem Bd.size (h:Bd B q most flags κ x w):B≤w.heap.size:=by
 have:=h.lt q.p (by rw[h.self.1];decide)
 omega
end
section
variable {B:Nat} {q:kE} {most flags:Int} {κ κ' κ0:Nat→Nat} {x x' y:BS} {w w' w2 w0:World}
theorem jT {c d:Nat} (hcd:d≠c):∀k,κ k=d→¬κ k=c:=fun k h e=>hcd (h.symm.trans e)
section steps
variable (h:Bd B q most flags κ x w)
include h
theorem Bd.buf_step {S':Nat→Prop} {s':St} (hl:(s'.1.length:Int)≤most) (h1:YV w' q.b S' most s') (h2:vS (fun k=>κ k=2) S' w w') (h3:Moved (fun k=>κ k=2) w w'):j1 B q most flags κ {x with s:=s'} w w':=
 ⟨v6 κ 2 w w',⟨vT h.lt h.size h3.size,⟨h.ok.m0,h.ok.m1,hl,h.ok.stk,h.ok.okS,h.ok.keys,h.ok.texts,h.ok.lists,h.ok.vals,h.ok.okL,h.ok.okK,h.ok.okT⟩,
  (h.self.kept h3 (jT (by decide))).mono (fun k _=>jR (by decide) h.lt k),h1.mono (fun k _=>vK (by decide) h.lt h2 k),(h.stk.kept h3 (jT (by decide))).mono (fun k _=>jR (by decide) h.lt k),
  (h.keys.kept h3 (jT (by decide))).mono (fun k _=>jR (by decide) h.lt k),(h.texts.kept h3 (jT (by decide))).mono (fun k _=>jR (by decide) h.lt k),(h.lists.kept h3 (jT (by decide))).mono (fun k _=>jR (by decide) h.lt k),(h.names.kept h3 (jT (by decide))).mono (fun k _=>jR (by decide) h.lt k)⟩,JZ (by decide) h3⟩
theorem Bd.stk_step {l':List V3} (hl:l'.length≤65536) (ho:∀v∈l',okV v) (ht:Y6 q.s (fun k=>κ k=3) l' w w'):j1 B q most flags κ {x with stk:=l'} w w':=by
 obtain⟨S',h1,h2,h3⟩:=ht
 exact⟨v6 κ 3 w w',⟨vT h.lt h.size h3.size,⟨h.ok.m0,h.ok.m1,h.ok.len,hl,ho,h.ok.keys,h.ok.texts,h.ok.lists,h.ok.vals,h.ok.okL,h.ok.okK,h.ok.okT⟩,
  (h.self.kept h3 (jT (by decide))).mono (fun k _=>jR (by decide) h.lt k),(h.buf.kept h3 (jT (by decide))).mono (fun k _=>jR (by decide) h.lt k),h1.mono (fun k _=>vK (by decide) h.lt h2 k),
  (h.keys.kept h3 (jT (by decide))).mono (fun k _=>jR (by decide) h.lt k),(h.texts.kept h3 (jT (by decide))).mono (fun k _=>jR (by decide) h.lt k),(h.lists.kept h3 (jT (by decide))).mono (fun k _=>jR (by decide) h.lt k),(h.names.kept h3 (jT (by decide))).mono (fun k _=>jR (by decide) h.lt k)⟩,JZ (by decide) h3⟩
theorem Bd.keys_step {l':zQ} (hl:l'.length≤1048577) (hk:∀z∈l',0≤z.2∧z.2≤9007199254740991) (ht:KO q.k (fun k=>κ k=4) l' w w'):j1 B q most flags κ {x with keys:=l'} w w':=by
 obtain⟨S',h1,h2,h3⟩:=ht
 exact⟨v6 κ 4 w w',⟨vT h.lt h.size h3.size,⟨h.ok.m0,h.ok.m1,h.ok.len,h.ok.stk,h.ok.okS,hl,h.ok.texts,h.ok.lists,h.ok.vals,h.ok.okL,hk,h.ok.okT⟩,
  (h.self.kept h3 (jT (by decide))).mono (fun k _=>jR (by decide) h.lt k),(h.buf.kept h3 (jT (by decide))).mono (fun k _=>jR (by decide) h.lt k),(h.stk.kept h3 (jT (by decide))).mono (fun k _=>jR (by decide) h.lt k),
  h1.mono (fun k _=>vK (by decide) h.lt h2 k),(h.texts.kept h3 (jT (by decide))).mono (fun k _=>jR (by decide) h.lt k),(h.lists.kept h3 (jT (by decide))).mono (fun k _=>jR (by decide) h.lt k),(h.names.kept h3 (jT (by decide))).mono (fun k _=>jR (by decide) h.lt k)⟩,JZ (by decide) h3⟩
theorem Bd.texts_step {l':zQ} (hl:l'.length≤1048577) (hk:∀z∈l',0≤z.2∧z.2≤9007199254740991) (ht:KO q.t (fun k=>κ k=5) l' w w'):j1 B q most flags κ {x with texts:=l'} w w':=by
 obtain⟨S',h1,h2,h3⟩:=ht
 exact⟨v6 κ 5 w w',⟨vT h.lt h.size h3.size,⟨h.ok.m0,h.ok.m1,h.ok.len,h.ok.stk,h.ok.okS,h.ok.keys,hl,h.ok.lists,h.ok.vals,h.ok.okL,h.ok.okK,hk⟩,
  (h.self.kept h3 (jT (by decide))).mono (fun k _=>jR (by decide) h.lt k),(h.buf.kept h3 (jT (by decide))).mono (fun k _=>jR (by decide) h.lt k),(h.stk.kept h3 (jT (by decide))).mono (fun k _=>jR (by decide) h.lt k),
  (h.keys.kept h3 (jT (by decide))).mono (fun k _=>jR (by decide) h.lt k),h1.mono (fun k _=>vK (by decide) h.lt h2 k),(h.lists.kept h3 (jT (by decide))).mono (fun k _=>jR (by decide) h.lt k),(h.names.kept h3 (jT (by decide))).mono (fun k _=>jR (by decide) h.lt k)⟩,JZ (by decide) h3⟩
theorem Bd.lists_step {l':zQ} (hl:l'.length≤1048577) (ht:KO q.l (fun k=>κ k=6) l' w w'):j1 B q most flags κ {x with lists:=l'} w w':=by
 obtain⟨S',h1,h2,h3⟩:=ht
 exact⟨v6 κ 6 w w',⟨vT h.lt h.size h3.size,⟨h.ok.m0,h.ok.m1,h.ok.len,h.ok.stk,h.ok.okS,h.ok.keys,h.ok.texts,hl,h.ok.vals,h.ok.okL,h.ok.okK,h.ok.okT⟩,
  (h.self.kept h3 (jT (by decide))).mono (fun k _=>jR (by decide) h.lt k),(h.buf.kept h3 (jT (by decide))).mono (fun k _=>jR (by decide) h.lt k),(h.stk.kept h3 (jT (by decide))).mono (fun k _=>jR (by decide) h.lt k),
  (h.keys.kept h3 (jT (by decide))).mono (fun k _=>jR (by decide) h.lt k),(h.texts.kept h3 (jT (by decide))).mono (fun k _=>jR (by decide) h.lt k),h1.mono (fun k _=>vK (by decide) h.lt h2 k),(h.names.kept h3 (jT (by decide))).mono (fun k _=>jR (by decide) h.lt k)⟩,JZ (by decide) h3⟩
theorem Bd.names_step {l':List (Int × ByteArray)} (h1:V5 w' q.m (qA l')) (h3:Moved (fun k=>k=q.m) w w'):j1 B q most flags κ {x with names:=l'} w w':=by
 have hm:κ q.m=7:=h.names.1
 have hM:Moved (fun k=>κ k=7) w w':=h3.mono (fun j _ hj=>by show κ j=7;rw[hj];exact hm)
 exact⟨v6 κ 7 w w',⟨vT h.lt h.size h3.size,⟨h.ok.m0,h.ok.m1,h.ok.len,h.ok.stk,h.ok.okS,h.ok.keys,h.ok.texts,h.ok.lists,h.ok.vals,h.ok.okL,h.ok.okK,h.ok.okT⟩,
  (h.self.kept hM (jT (by decide))).mono (fun k _=>jR (by decide) h.lt k),(h.buf.kept hM (jT (by decide))).mono (fun k _=>jR (by decide) h.lt k),(h.stk.kept hM (jT (by decide))).mono (fun k _=>jR (by decide) h.lt k),
  (h.keys.kept hM (jT (by decide))).mono (fun k _=>jR (by decide) h.lt k),(h.texts.kept hM (jT (by decide))).mono (fun k _=>jR (by decide) h.lt k),(h.lists.kept hM (jT (by decide))).mono (fun k _=>jR (by decide) h.lt k),⟨jR (by decide) h.lt _ hm,h1⟩⟩,JZ (by decide) hM⟩
theorem Bd.self_step {S':Nat→Prop} {e':Int} {vals':List V3} (hv:vals'.length≤1048577) (ho:∀v∈vals',okV v) (h1:KP w' q flags S' e' vals') (h2:vS (fun k=>κ k=1) S' w w') (h3:Moved (fun k=>κ k=1) w w'):j1 B q most flags κ {x with e:=e',vals:=vals'} w w':=
 ⟨v6 κ 1 w w',⟨vT h.lt h.size h3.size,⟨h.ok.m0,h.ok.m1,h.ok.len,h.ok.stk,h.ok.okS,h.ok.keys,h.ok.texts,h.ok.lists,hv,ho,h.ok.okK,h.ok.okT⟩,
  h1.mono (fun k _=>vK (by decide) h.lt h2 k),(h.buf.kept h3 (jT (by decide))).mono (fun k _=>jR (by decide) h.lt k),(h.stk.kept h3 (jT (by decide))).mono (fun k _=>jR (by decide) h.lt k),
  (h.keys.kept h3 (jT (by decide))).mono (fun k _=>jR (by decide) h.lt k),(h.texts.kept h3 (jT (by decide))).mono (fun k _=>jR (by decide) h.lt k),(h.lists.kept h3 (jT (by decide))).mono (fun k _=>jR (by decide) h.lt k),(h.names.kept h3 (jT (by decide))).mono (fun k _=>jR (by decide) h.lt k)⟩,JZ (by decide) h3⟩
theorem Bd.row:∃vv,w.heap[q.p]? = some (ZO q flags vv x.e):=by obtain⟨_,vv,h1,_⟩:=h.self;exact⟨vv,h1⟩
theorem Bd.setE (e':Int):j1 B q most flags κ {x with e:=e'} w (w.setCell ⟨q.p,2,none⟩ (.int .i64 e')):=by
 obtain⟨h0,vv,h1,h2,h3⟩:=h.self
 have hm:Moved (fun k=>k=q.p) w (w.setCell ⟨q.p,2,none⟩ (.int .i64 e')):=zF w q.p 2 _
 refine h.self_step (S':=fun k=>κ k=1) h.ok.vals h.ok.okL ⟨h0,vv,?_,hm.owns h2 (fun k hk e=>zR h2 h1 (by decide) (by rw[hk,e])),h3⟩ (vS.refl _ _ _) (hm.mono (fun j _ hj=>by show κ j=1;rw[hj];exact h0))
 have:=heap_setCell_same w q.p 2 _ _ (.int .i64 e') h1
 simpa using this
theorem Bd.buf_calls {f:Nat} {args:Array Value} {R:Ending→Prop} {s':St} (hl:(s'.1.length:Int)≤most)
 (hc:∀o,kL 0 w q.b o x.s.1 most x.s.2→(∀k,y6 q.b o k→κ k=2)→Calls prog f args w fun r w'=>R r∧jY 0 w w' q.b o most s') :
 Calls prog f args w fun r w'=>R r∧j1 B q most flags κ {x with s:=s'} w w':=by
 obtain⟨h0,o,h1,h2⟩:=h.buf
 refine (hc o h1 (fun k hk=>hk.elim (fun e=>e ▸ h0) (fun e=>h2 k e.symm))).mono fun r w' hr=>⟨hr.1,?_⟩
 obtain⟨S',k1,k2,k3⟩:=YV.turn (S:=fun k=>κ k=2) h0 h1 h2 hr.2
 exact h.buf_step hl k1 k2 k3
end steps
def Env (B:Nat) (q:kE) (most flags:Int) (w0:World) (κ0:Nat→Nat) (Kp:List (Nat × Obj)) (x:BS) (w:World):Prop:=
 ∃κ,Bd B q most flags κ x w∧Tn κ0 κ w0 w∧∀z∈Kp,w.heap[z.1]? = some z.2∧κ z.1=0
variable {Kp:List (Nat × Obj)}
theorem Env.start (h:Bd B q most flags κ x w):Env B q most flags w κ [] x w:=⟨κ,h,Tn.refl _ _,by simp⟩
theorem Env.turn (h:Env B q most flags w0 κ0 Kp x w):j1 B q most flags κ0 x w0 w:=by obtain⟨κ,h1,h2,_⟩:=h;exact⟨κ,h1,h2⟩
theorem Env.grew (h:Env B q most flags w0 κ0 Kp x w) (hg:jB w w'):Env B q most flags w0 κ0 Kp x w':=by
 obtain⟨κ,h1,h2,h3⟩:=h
 exact⟨κ,h1.grew hg,h2.trans (Tn.of_grew hg),fun z hz=>⟨hg.heap (h3 z hz).1,(h3 z hz).2⟩⟩
theorem Env.add (h:Env B q most flags w0 κ0 Kp x w) (o:Obj):Env B q most flags w0 κ0 ((w.heap.size,o)::Kp) x (w.alloc o):=by
 obtain⟨κ,h1,h2,h3⟩:=h
 have hg:=(jB.refl w).alloc o
 refine⟨κ,h1.grew hg,h2.trans (Tn.of_grew hg),fun z hz=>?_⟩
 rcases List.mem_cons.1 hz with rfl|hz
 ·exact⟨heap_alloc_new w o,Decidable.byContradiction fun hk=>by have:=(h1.lt _ hk).2;omega⟩
 ·exact⟨hg.heap (h3 z hz).1,(h3 z hz).2⟩
theorem Env.kp (h:Env B q most flags w0 κ0 Kp x w) {n:Nat} {o:Obj} (hm:(n,o)∈Kp):w.heap[n]? = some o:=by obtain⟨κ,_,_,h3⟩:=h;exact (h3 _ hm).1
theorem Env.row (h:Env B q most flags w0 κ0 Kp x w):∃vv,w.heap[q.p]? = some (ZO q flags vv x.e):=by obtain⟨κ,h1,_⟩:=h;exact h1.row
theorem Env.size (h:Env B q most flags w0 κ0 Kp x w):w0.heap.size≤w.heap.size:=by obtain⟨κ,_,h2,_⟩:=h;exact h2.1.size
theorem Env.after (h:Env B q most flags w0 κ0 Kp x w) (ht:∀κ,Bd B q most flags κ x w→(∀z∈Kp,κ z.1=0)→j1 B q most flags κ y w w'):Env B q most flags w0 κ0 Kp y w':=by
 obtain⟨κ,h1,h2,h3⟩:=h
 obtain⟨κ1,k1,k2⟩:=ht κ h1 (fun z hz=>(h3 z hz).2)
 exact⟨κ1,k1,h2.trans k2,fun z hz=>⟨k2.1.heap (h3 z hz).1 (fun e=>e (h3 z hz).2),(k2.2 z.1 (Array.getElem?_eq_some_iff.1 (h3 z hz).1).1).trans (h3 z hz).2⟩⟩
theorem Env.callw {f:Nat} {args:Array Value} {R:Ending→Prop} {w1:World} (h:Env B q most flags w0 κ0 Kp x w) (hc:∀κ,Bd B q most flags κ x w→(∀z∈Kp,κ z.1=0)→Calls prog f args w1 fun r w'=>R r∧j1 B q most flags κ y w w') :
 Calls prog f args w1 fun r w'=>R r∧Env B q most flags w0 κ0 Kp y w':=by
 obtain⟨κ,h1,h2,h3⟩:=h
 refine (hc κ h1 (fun z hz=>(h3 z hz).2)).mono fun r w' hr=>⟨hr.1,?_⟩
 obtain⟨κ1,k1,k2⟩:=hr.2
 exact⟨κ1,k1,h2.trans k2,fun z hz=>⟨k2.1.heap (h3 z hz).1 (fun e=>e (h3 z hz).2),(k2.2 z.1 (Array.getElem?_eq_some_iff.1 (h3 z hz).1).1).trans (h3 z hz).2⟩⟩
theorem Env.call {f:Nat} {args:Array Value} {R:Ending→Prop} (h:Env B q most flags w0 κ0 Kp x w) (hc:∀κ,Bd B q most flags κ x w→(∀z∈Kp,κ z.1=0)→Calls prog f args w fun r w'=>R r∧j1 B q most flags κ y w w') :
 Calls prog f args w fun r w'=>R r∧Env B q most flags w0 κ0 Kp y w':=by
 have h':=h
 obtain⟨κ,h1,h2,h3⟩:=h
 refine (hc κ h1 (fun z hz=>(h3 z hz).2)).mono fun r w' hr=>⟨hr.1,?_⟩
 obtain⟨κ1,k1,k2⟩:=hr.2
 exact⟨κ1,k1,h2.trans k2,fun z hz=>⟨k2.1.heap (h3 z hz).1 (fun e=>e (h3 z hz).2),(k2.2 z.1 (Array.getElem?_eq_some_iff.1 (h3 z hz).1).1).trans (h3 z hz).2⟩⟩
end
theorem Env.told {B:Nat} {q:kE} {most flags:Int} {κ:Nat→Nat} {x:BS} {w w2 w3:World} {Kp:List (Nat × Obj)} {N:Nat} {o:Obj} (h:Env B q most flags w κ Kp x w2) (hN:(N,o)∈Kp) (hw:w.heap.size≤N) (hm:Moved (fun k=>k=N) w2 w3):j1 B q most flags κ x w w3:=by
 obtain⟨κ1,h1,h2,h3⟩:=h
 have hz:=(h3 _ hN).2
 have hd:∀c,c≠0→∀k,κ1 k=c→¬k=N:=fun c hc k hk e=>hc (by rw[← hk,e];exact hz)
 exact⟨κ1,⟨fun k hk=>⟨(h1.lt k hk).1,Nat.lt_of_lt_of_le (h1.lt k hk).2 hm.size⟩,h1.ok,h1.self.kept hm (hd 1 (by decide)),h1.buf.kept hm (hd 2 (by decide)),h1.stk.kept hm (hd 3 (by decide)),h1.keys.kept hm (hd 4 (by decide)),h1.texts.kept hm (hd 5 (by decide)),h1.lists.kept hm (hd 6 (by decide)),h1.names.kept hm (hd 7 (by decide))⟩,
  h2.1.trans hm (fun j hj e=>by omega),h2.2⟩
theorem YW {B:Nat} {q:kE} {most flags:Int} {κ:Nat→Nat} {x:BS} {w:World} (h:Bd B q most flags κ x w):Calls prog 34 #[jF q.p] w fun r w'=>r=.returned (.bool false)∧w'=w:=by
 obtain⟨vv,h1⟩:=h.row
 have c9:=jK h1 9 _ rfl
 clear h1
 go_enter func34,ntmps34
 go_wp2
 go_ret
 exact⟨rfl,rfl⟩
theorem m8 {B:Nat} {q:kE} {most flags:Int} {κ:Nat→Nat} {x:BS} {w:World} (h:Bd B q most flags κ x w):Calls prog 10 #[jF q.p] w fun r w'=>r=.returned (.int .i64 x.e)∧w'=w:=by
 have HB:=zh h
 obtain⟨vv,h1⟩:=h.row
 have c2:=jK h1 2 _ rfl
 clear h1
 go_enter func10,ntmps10
 go_wp2_with fail
 refine (YW HB.out).mono ?_
 rintro r w' ⟨rfl,rfl⟩
 go_wp2
 go_ret
 exact⟨rfl,rfl⟩
theorem dY {B:Nat} {q:kE} {most flags:Int} {κ:Nat→Nat} {x:BS} {w:World} (h:Bd B q most flags κ x w):Calls prog 11 #[jF q.p] w fun r w'=>r=.returned (.int .i64 x.stk.length)∧w'=w:=by
 have HB:=zh h
 obtain⟨vv,h1⟩:=h.row
 have c1:=jK h1 1 _ rfl
 clear h1
 go_enter func11,ntmps11
 go_wp2_with fail
 refine (YW HB.out).mono ?_
 rintro r w' ⟨rfl,rfl⟩
 go_wp2_with fail
 refine (dQ HB.out.stk).mono ?_
 rintro r w2 ⟨rfl,rfl⟩
 go_wp2
 go_ret
 exact⟨rfl,rfl⟩
theorem on_any {B:Nat} {q:kE} {most flags:Int} {κ:Nat→Nat} {x:BS} {w:World} (flag:Int) (h:Bd B q most flags κ x w):Calls prog 56 #[.pointer (some ⟨q.p,3,none⟩),.int .i64 flag] w fun r w'=>r=.returned (.bool (onF flags flag))∧w'=w:=by
 obtain⟨vv,h1⟩:=h.row
 have c3:=jK h1 3 _ rfl
 clear h1
 go_enter func56,ntmps56
 go_wp2
 go_ret
 exact⟨rfl,rfl⟩
theorem kN {B:Nat} {q:kE} {most flags:Int} {κ:Nat→Nat} {x:BS} {w:World} (e:Int) (h:Bd B q most flags κ x w):Calls prog 65 #[jF q.p,.int .i64 e] w fun r w'=>r=.returned (.tuple #[])∧j1 B q most flags κ (x.fail e) w w':=by
 have HB:=zh h
 have HS:=zh (h.setE e)
 obtain⟨vv,h1⟩:=h.row
 have c2:=jK h1 2 _ rfl
 have f2:=jE h1 2
 clear h1
 by_cases he:x.e=0
 ·have HX:Hid (x.fail e={x with e:=e}):=by show _=_;unfold BS.fail kF;rw[if_pos he]
  rw[he] at c2
  clear he
  go_enter func65,ntmps65
  go_wp2
  go_end0
  exact⟨rfl,by rw[HX.out];exact HS.out⟩
 ·have HX:Hid (x.fail e=x):=by show _=_;unfold BS.fail kF;rw[if_neg he]
  generalize hex:x.e=ex at *
  go_enter func65,ntmps65
  go_wp2
  go_end0
  exact⟨rfl,by rw[HX.out];exact HB.out.refl⟩
section
variable {B:Nat} {q:kE} {most flags:Int} {κ κ' κ0:Nat→Nat} {x x' y:BS} {w w' w2 w0:World} {Kp:List (Nat × Obj)}
theorem Env.at0 (h:Env B q most flags w0 κ0 Kp x w):w.cell? ⟨q.p,0,none⟩=some (jF q.b):=by obtain⟨vv,h1⟩:=h.row;exact jK h1 0 _ rfl
theorem Env.at1 (h:Env B q most flags w0 κ0 Kp x w):w.cell? ⟨q.p,1,none⟩=some (jF q.s):=by obtain⟨vv,h1⟩:=h.row;exact jK h1 1 _ rfl
theorem Bd.at1 (h:Bd B q most flags κ x w):w.cell? ⟨q.p,1,none⟩=some (jF q.s):=by obtain⟨vv,h1⟩:=h.row;exact jK h1 1 _ rfl
theorem Env.at2 (h:Env B q most flags w0 κ0 Kp x w):w.cell? ⟨q.p,2,none⟩=some (.int .i64 x.e):=by obtain⟨vv,h1⟩:=h.row;exact jK h1 2 _ rfl
theorem Env.at4 (h:Env B q most flags w0 κ0 Kp x w):w.cell? ⟨q.p,4,none⟩=some (jF q.k):=by obtain⟨vv,h1⟩:=h.row;exact jK h1 4 _ rfl
theorem Env.at5 (h:Env B q most flags w0 κ0 Kp x w):w.cell? ⟨q.p,5,none⟩=some (jF q.t):=by obtain⟨vv,h1⟩:=h.row;exact jK h1 5 _ rfl
theorem Env.at6 (h:Env B q most flags w0 κ0 Kp x w):w.cell? ⟨q.p,6,none⟩=some (jF q.l):=by obtain⟨vv,h1⟩:=h.row;exact jK h1 6 _ rfl
theorem Env.at7 (h:Env B q most flags w0 κ0 Kp x w):w.cell? ⟨q.p,7,none⟩=some (.map (some q.m)):=by obtain⟨vv,h1⟩:=h.row;exact jK h1 7 _ rfl
theorem Bd.at7 (h:Bd B q most flags κ x w):w.cell? ⟨q.p,7,none⟩=some (.map (some q.m)):=by obtain⟨vv,h1⟩:=h.row;exact jK h1 7 _ rfl
theorem Env.cell (h:Env B q most flags w0 κ0 Kp x w) {n:Nat} {cs:Array Value} {t:TypeId} (hm:(n,Obj.cells cs t (0,0))∈Kp) (k:Nat) (v:Value) (hv:cs[k]? = some v):w.cell? ⟨n,k,none⟩=some v:=jK (h.kp hm) k v hv
def zX (B:Nat) (q:kE) (most flags:Int) (w0:World) (κ0:Nat→Nat) (Kp:List (Nat × Obj)) (xs:List BS) (z:BS) (p:Nat) (w:World):Prop:=Env B q most flags w0 κ0 Kp (xs.getD p z) w
theorem zX.grew {xs:List BS} {z:BS}:∀(p:Nat) (w w':World),jB w w'→zX B q most flags w0 κ0 Kp xs z p w→zX B q most flags w0 κ0 Kp xs z p w':=fun _ _ _ hg h=>Env.grew h hg
def qP (m:Nat) (φ:Value→World→Prop) (p:Nat) (v:Value) (w:World):Prop:=p≤m→φ v w
theorem qP.st {φ:Value→World→Prop} {T:Nat→World→World→Prop} (h:∀v w w',jB w w'→φ v w→φ v w'):(∀p v w w',jB w w'→qP 0 φ p v w→qP 0 φ p v w')∧∀p v w w',T p w w'→qP 0 φ p v w→qP 0 φ (p+1) v w':=
 ⟨fun p v w w' hg k hp=>h v w w' hg (k hp),fun p v w w' _ _ hp=>absurd hp (by omega)⟩
theorem buferr (h:Bd B q most flags κ x w):Calls prog 109 #[jF q.b] w fun r w'=>r=.returned (.int .i64 x.s.2)∧w'=w:=by
 obtain⟨_,o,h1,_⟩:=h.buf
 exact yX h1
theorem buflen (h:Bd B q most flags κ x w):Calls prog 67 #[jF q.b] w fun r w'=>r=.returned (.int .i64 x.s.1.length)∧w'=w:=by
 obtain⟨_,o,h1,_⟩:=h.buf
 exact yN h1
theorem stkpush (h:Bd B q most flags κ x w) (sv:Value) (v:V3) (hv:ValsAt w sv [v]) (hn:∀c,sv=.slice none 0 c→c=0) (hok:okV v):Calls prog 110 #[jF q.s,sv] w fun r w'=>r=.returned (.int .i64 (VC x.stk.length))∧j1 B q most flags κ {x with stk:=VD x.stk v} w w':=by
 unfold VC VD
 refine (lA sv h.stk h.ok.stk hv hn (by simp)).mono fun r w' hr=>⟨hr.1,?_⟩
 refine h.stk_step ?_ ?_ hr.2
 ·split
  ·rename_i hh;rw[List.length_append];exact hh
  ·exact h.ok.stk
 ·intro u hu
  split at hu
  ·rcases List.mem_append.1 hu with hu|hu
   ·exact h.ok.okS u hu
   ·simp at hu;subst hu;exact hok
  ·exact h.ok.okS u hu
end
theorem qD {B:Nat} {q:kE} {most flags:Int} {κ:Nat→Nat} {x:BS} {w:World} (v:V3) (hv:okV v) (h:Bd B q most flags κ x w):Calls prog 57 #[jF q.p,vV v] w fun r w'=>r=.returned (.tuple #[])∧j1 B q most flags κ (x.push v) w w':=by
 obtain⟨ty,wd,n⟩:=v
 have HV:=zh hv
 have HE:Hid (Env B q most flags w κ [(w.heap.size,.cells #[.int .i64 ty,.int .i64 wd,.int .u64 n] 92 (0,0))] x (w.alloc (.cells #[.int .i64 ty,.int .i64 wd,.int .u64 n] 92))):=(Env.start h).add _
 have HM:Hid ((w.heap.size,Obj.cells #[.int .i64 ty,.int .i64 wd,.int .u64 n] 92 (0,0))∈([(w.heap.size,.cells #[.int .i64 ty,.int .i64 wd,.int .u64 n] 92 (0,0))]:List (Nat × Obj))):=List.mem_singleton.2 rfl
 clear h hv
 show Calls prog 57 #[jF q.p,.agg #[.int .i64 ty,.int .i64 wd,.int .u64 n]] w _
 have c0:=HE.out.at0
 go_enter func57,ntmps57
 go_wp2_with fail
 generalize (w.alloc (.cells #[.int .i64 ty,.int .i64 wd,.int .u64 n] 92))=w1 at *
 refine (by obtain⟨κ1,hb,_⟩:=HE.out;exact buferr hb:Calls prog 109 #[jF q.b] w1 fun r w'=>r=.returned (.int .i64 x.s.2)∧w'=w1).mono ?_
 rintro r w1' ⟨rfl,hw1⟩
 subst hw1
 go_wp2_with fail
 refine (HE.out.call fun κ1 hb hz=>kN _ hb).mono ?_
 rintro r w2 ⟨rfl,he⟩
 have HE2:=zh he
 clear he c0
 have c2:=HE2.out.at2
 by_cases he:kF x.e x.s.2=0
 ·have HX:Hid (x.push (ty,wd,n)=({x.fail x.s.2 with stk:=VD x.stk (ty,wd,n)}:BS).fail (VC x.stk.length)):=by
   show _=_
   have h1:x.fail x.s.2={x with e:=0}:=by unfold BS.fail;rw[he]
   rw[h1]
   unfold BS.push
   rw[if_pos he]
   by_cases hr:x.stk.length+1≤65536
   ·simp only[VD,VC,if_pos hr];rfl
   ·simp only[VD,VC,if_neg hr];rfl
  rw[show (x.fail x.s.2).e=0 from he] at c2
  clear he
  go_wp2_with fail
  refine jO [7,8] (zX B q most flags w κ [(w.heap.size,.cells #[.int .i64 ty,.int .i64 wd,.int .u64 n] 92 (0,0))] [x.fail x.s.2,{x.fail x.s.2 with stk:=VD x.stk (ty,wd,n)}] (({x.fail x.s.2 with stk:=VD x.stk (ty,wd,n)}:BS).fail (VC x.stk.length))) (fun _ w w'=>jB w w') ((fun p (_:Nat→Value)=>(fun _ _ _=>True) p)) [[],[],[1],[1,2],[1,2,3],[],[5],[1,2,3,4,5,6],[0,1,2,3,4,5,6,7]] [[(17,1),(18,2),(19,3),(20,4),(21,5),(22,6),(23,7)],[(16,0),(21,5),(22,6)],[(16,0),(17,1),(21,5),(22,6)],[(16,0),(17,1),(18,2),(21,5),(22,6)],[(16,0),(17,1),(18,2),(19,3),(21,5),(22,6)],[(16,0),(17,1),(18,2),(19,3),(20,4)],[(16,0),(17,1),(18,2),(19,3),(20,4),(21,5)],[(16,0),(17,1),(18,2),(19,3),(20,4),(21,5),(22,6)],[(16,0),(17,1),(18,2),(19,3),(20,4),(21,5),(22,6),(23,7)]] [(16,0),(17,1),(18,2),(19,3),(20,4),(21,5),(22,6),(23,7),(24,8)]
   [IsP (jF q.p),IsP (jF q.p),IsP (jF q.p),IsP (.pointer (some ⟨q.p,1,none⟩)),IsP (jF q.s),IsP (.agg #[.int .i64 ty,.int .i64 wd,.int .u64 n]),qP 0 (fun v w=>(∃g,v=.slice (some ⟨g,0,none⟩) 1 1)∧ValsAt w v [(ty,wd,n)]),IsP (.int .i64 (VC x.stk.length)),IsP (.tuple #[])]
   zk (zX.grew) (HE2.out.grew (jB.refl _).drew) zk zk ⟨jC,jC,jC,jC,jC,jC,qQ (qP.st (fun v w w' hg h=>⟨h.1,h.2.grew hg⟩)),jC,jC,trivial⟩ rfl ?_ ?_
  ·intro y w2 hW hF
   simp only[kT,IsP,Nat.reduceAdd,List.length_cons,List.length_nil] at hF hW
   have h0:=hF.1
   have h1:=hF.2.1
   have h2:=hF.2.2.1
   have h3:=hF.2.2.2.1
   have h4:=hF.2.2.2.2.1
   have h5:=hF.2.2.2.2.2.1
   have h6:=hF.2.2.2.2.2.2.1
   have h7:=hF.2.2.2.2.2.2.2.1
   have h8:=hF.2.2.2.2.2.2.2.2.1
   clear hF
   simp only[jA,Act.put,zq1,zq2,zq3,zq4,zq5]
   simp only[h0,h1,h2,h3,h4,h5,h7,h8]
   clear h0 h1 h2 h3 h4 h5 h7 h8
   go_wp2
   go_end0
   exact⟨rfl,by rw[HX.out];exact Env.turn hW⟩
  refine⟨zqd,zqd,zqd,zqd,?_⟩
  refine⟨?_,?_⟩
  ·refine jJ 0 0 ?_
   intro y w2 p hlo hhi hW hD K hK
   obtain rfl:p=0:=by omega
   have dd:=Env.at1 hW
   exact zqr
  refine⟨?_,?_⟩
  ·refine jJ 0 0 ?_
   intro y w2 p hlo hhi hW hD K hK
   obtain rfl:p=0:=by omega
   have d0:=Env.cell hW HM.out 0 _ rfl
   have d1:=Env.cell hW HM.out 1 _ rfl
   have d2:=Env.cell hW HM.out 2 _ rfl
   exact zqr
  refine⟨?_,?_⟩
  ·refine jJ 0 0 ?_
   intro y w2 p hlo hhi hW hD K hK
   simp only[jU,zq4,zq5,IsP] at hD
   generalize hAA:jA y _ _=AA at hK⊢
   simp only[jA,Act.put,zq1,zq2,zq3,zq4,zq5,IsP] at hAA
   subst hAA
   simp only[zq4,zq5,IsP] at hK
   simp only[hD] at hK⊢
   clear hD
   refine jG ?_
   go_simp
   exact hK _ _ _ rfl ((jB.refl _).alloc _) (fun _=>⟨⟨_,rfl⟩,q9 w2 (ty,wd,n)⟩)
  refine⟨?_,?_⟩
  ·refine jP 0 rfl ?_
   intro y w2 hW hD K hK
   simp only[jU,zq4,zq5,IsP] at hD
   have h1:=hD.1
   have h2:=hD.2.1
   have h3:=hD.2.2.1
   have h4:=hD.2.2.2.1
   have h5:=hD.2.2.2.2.1
   have h6:=hD.2.2.2.2.2.1
   clear hD
   generalize hAA:jA y _ _=AA at hK⊢
   simp only[jA,Act.put,zq1,zq2,zq3,zq4,zq5,IsP] at hAA
   subst hAA
   simp only[zq4,zq5,IsP] at hK
   simp only[h1,h2,h3,h4,h5] at hK⊢
   clear h1 h2 h3 h4 h5
   obtain⟨⟨g6,e6⟩,hv6⟩:=h6 (Nat.le_refl _)
   rw[e6] at hK hv6⊢
   refine jG ?_
   go_simp
   refine (Env.call hW fun κ1 hb hz=>stkpush hb (.slice (some ⟨g6,0,none⟩) 1 1) (ty,wd,n) hv6 (fun c e=>by cases e) HV.out).mono ?_
   rintro r w3 ⟨rfl,he⟩
   exact hK _ _ _ rfl trivial he rfl
  refine⟨?_,?_⟩
  ·refine jP 1 rfl ?_
   intro y w2 hW hD K hK
   simp only[jU,zq4,zq5,IsP] at hD
   have h0:=hD.1
   have h1:=hD.2.1
   have h2:=hD.2.2.1
   have h3:=hD.2.2.2.1
   have h4:=hD.2.2.2.2.1
   have h5:=hD.2.2.2.2.2.1
   have h6:=hD.2.2.2.2.2.2.1
   have h7:=hD.2.2.2.2.2.2.2.1
   clear hD
   generalize hAA:jA y _ _=AA at hK⊢
   simp only[jA,Act.put,zq1,zq2,zq3,zq4,zq5,IsP] at hAA
   subst hAA
   simp only[zq4,zq5,IsP] at hK
   simp only[h0,h1,h2,h3,h4,h5,h7] at hK⊢
   clear h0 h1 h2 h3 h4 h5 h7
   refine jG ?_
   go_simp
   refine (Env.call hW fun κ1 hb hz=>kN _ hb).mono ?_
   rintro r w3 ⟨rfl,he⟩
   exact hK _ _ _ rfl trivial he rfl
  trivial
 ·have HX:Hid (x.push (ty,wd,n)=x.fail x.s.2):=by
   show _=_
   unfold BS.push BS.fail
   rw[if_neg he]
  generalize hex:(x.fail x.s.2).e=ex at *
  have hne:¬ex=0:=by rw[← hex];exact he
  clear hex he
  go_wp2
  go_end0
  exact⟨rfl,by rw[HX.out];exact HE2.out.turn⟩
theorem xor_zero (n:Int) (h0 : -9223372036854775808≤n) (h1:n≤9223372036854775807):bits .xor .i64 n 0=n:=by
 unfold bits
 show IntKind.i64.wrap (((BitVec.ofInt 64 n) ^^^ (BitVec.ofInt 64 0)).toNat:Int)=_
 rw[show BitVec.ofInt 64 0=0#64 from rfl,BitVec.xor_zero,BitVec.toNat_ofInt]
 simp[IntKind.wrap,IntKind.bits,IntKind.signed]
 omega
theorem m9 (n:Int) (h0 : -9223372036854775808≤n) (h1:n≤9223372036854775807):bits .xor .i64 n (-1) = -n - 1:=by
 unfold bits
 show IntKind.i64.wrap (((BitVec.ofInt 64 n) ^^^ (BitVec.ofInt 64 (-1))).toNat:Int)=_
 rw[show BitVec.ofInt 64 (-1)=BitVec.allOnes 64 by decide,BitVec.xor_allOnes,BitVec.toNat_not,BitVec.toNat_ofInt]
 simp[IntKind.wrap,IntKind.bits,IntKind.signed]
 omega
theorem aW (n:Int) (m:Nat) (hm:m < 2 ^ 63) (h:(0≤n∧n=m)∨(n < 0∧-n - 1=m)):Ft.leastW (1+(Lib.bitLen m:Int))=qO n:=by
 have hu:m < 2 ^ 64:=by omega
 have two:∀k:Nat,(Lib.bitLen m≤k∧m < 2 ^ k)∨(k < Lib.bitLen m∧2 ^ k≤m):=fun k=>by
  have h:=Ft.bitLen_le m k hu
  rcases Nat.lt_or_ge k (Lib.bitLen m) with h1|h1
  ·exact .inr ⟨h1,Nat.le_of_not_lt fun h2=>by have:=h.2 h2;omega⟩
  ·exact .inl ⟨h1,h.1 h1⟩
 have a:=two 7
 have b:=two 15
 have c:=two 31
 clear two
 generalize Lib.bitLen m=z at *
 unfold Ft.leastW qO
 repeat' split
 all_goals omega
theorem lD (n:Int) (w:World) (h0 : -9223372036854775808≤n) (h1:n≤9223372036854775807):Calls prog 153 #[.int .i64 n] w fun r w'=>r=.returned (.int .i64 (qO n))∧w=w':=by
 by_cases hn:0≤n
 ·obtain⟨m,rfl⟩:=Int.eq_ofNat_of_zero_le hn
  have hx:=xor_zero (m:Int) h0 h1
  have HW:=zh (aW (m:Int) m (by omega) (.inl ⟨hn,rfl⟩))
  have hbl:=(Ft.bitLen_le m 64 (by omega)).2 (by omega)
  have hwb:IntKind.i64.wrap (1+(Lib.bitLen m:Int))=1+Lib.bitLen m:=by rw[IntKind.wrap_i64];omega
  clear hbl
  have hd:(m:Int) / 9223372036854775808=0:=by omega
  have hwu:IntKind.u64.wrap (m:Int)=m:=by simp[IntKind.wrap,IntKind.bits,IntKind.signed];omega
  go_enter func153,ntmps153
  go_wp2_with fail
  refine (Tryz.bits_Len64 (m:Int) _ (by omega) (by omega)).mono ?_
  rintro r w1 ⟨rfl,rfl⟩
  go_wp2_with fail
  refine (Ft.least_any _ _).mono ?_
  rintro r w1 ⟨rfl,rfl⟩
  go_wp2
  go_ret
  exact⟨yW HW.out,rfl⟩
 ·obtain⟨m,hm⟩:=Int.eq_ofNat_of_zero_le (show 0≤-n - 1 by omega)
  have hx:=m9 n h0 h1
  rw[hm] at hx
  have HW:=zh (aW n m (by omega) (.inr ⟨by omega,hm⟩))
  have hbl:=(Ft.bitLen_le m 64 (by omega)).2 (by omega)
  have hwb:IntKind.i64.wrap (1+(Lib.bitLen m:Int))=1+Lib.bitLen m:=by rw[IntKind.wrap_i64];omega
  clear hbl
  have hd:n / 9223372036854775808 = -1:=by omega
  have hwu:IntKind.u64.wrap (m:Int)=m:=by simp[IntKind.wrap,IntKind.bits,IntKind.signed];omega
  have hm1:(m:Int)≤18446744073709551615:=by omega
  clear hm
  go_enter func153,ntmps153
  go_wp2_with fail
  refine (Tryz.bits_Len64 (m:Int) _ (by omega) hm1).mono ?_
  rintro r w1 ⟨rfl,rfl⟩
  go_wp2_with fail
  refine (Ft.least_any _ _).mono ?_
  rintro r w1 ⟨rfl,rfl⟩
  go_wp2
  go_ret
  exact⟨yW HW.out,rfl⟩
theorem VI (n:Int) (w:World) (h0 : -9223372036854775808≤n) (h1:n≤9223372036854775807):Calls prog 78 #[.int .i64 n] w fun r w'=>r=.returned (vV (yG n))∧jB w w':=by
 have jL:=heap_alloc_new w (.cells #[.int .i64 0,.int .i64 0,.int .u64 0] 92)
 have hg:=(jB.refl w).alloc (.cells #[.int .i64 0,.int .i64 0,.int .u64 0] 92)
 have hwu:IntKind.u64.wrap n=n % 18446744073709551616:=by simp[IntKind.wrap,IntKind.bits,IntKind.signed]
 have f0:=jE jL 0
 have f1:=jE jL 1
 have f2:=jE jL 2
 have c0:=jK jL 0 _ rfl
 have c1:=jK jL 1 _ rfl
 have c2:=jK jL 2 _ rfl
 clear jL hg
 go_enter func78,ntmps78
 go_wp2_with fail
 refine (lD n _ h0 h1).mono ?_
 rintro r w1 ⟨rfl,rfl⟩
 go_wp2
 refine bodyPost_ret (v:=vV (yG n)) ?_ rfl ⟨rfl,(jB.refl w).alloc _⟩
 simp[results,results78,go_sem,c0,c1,c2,vV,yG]
theorem VJ (u:Int) (w:World) (h0:0≤u) (h1:u≤18446744073709551615):Calls prog 79 #[.int .u64 u] w fun r w'=>r=.returned (vV (yJ u))∧jB w w':=by
 have jL:=heap_alloc_new w (.cells #[.int .i64 0,.int .i64 0,.int .u64 0] 92)
 have hg:=(jB.refl w).alloc (.cells #[.int .i64 0,.int .i64 0,.int .u64 0] 92)
 have f0:=jE jL 0
 have f1:=jE jL 1
 have f2:=jE jL 2
 have c0:=jK jL 0 _ rfl
 have c1:=jK jL 1 _ rfl
 have c2:=jK jL 2 _ rfl
 clear jL hg
 go_enter func79,ntmps79
 go_wp2_with fail
 refine (Ft.widthOf_any u _ h0 h1).mono ?_
 rintro r w1 ⟨rfl,rfl⟩
 go_wp2
 refine bodyPost_ret (v:=vV (yJ u)) ?_ rfl ⟨rfl,(jB.refl w).alloc _⟩
 simp[results,results79,go_sem,c0,c1,c2,vV,yJ]
theorem k8 {B:Nat} {q:kE} {most flags:Int} {κ:Nat→Nat} {x:BS} {w:World} (h:Bd B q most flags κ x w) (k:Nat) (cap:Array Value) (y:BS) (hy:x.e≠0→y=x) (he:∀w,(callFunc k cap).run prog w=.ok (.enter k cap) w)
 (hdo:x.e=0→Calls prog k cap w fun r w'=>r=.returned (.tuple #[])∧j1 B q most flags κ y w w') :
 Calls prog 53 #[jF q.p,.func (.func k) #[] cap] w fun r w'=>r=.returned (.tuple #[])∧j1 B q most flags κ y w w':=by
 have HB:=zh h
 have HD:=zh hdo
 have HY:=zh hy
 have HE:=zh (m8 h)
 clear h hdo hy
 by_cases hx:x.e=0
 ·rw[hx] at HE
  have HX:=zh hx
  clear hx
  go_enter func53,ntmps53
  go_wp2_with fail
  refine HE.out.mono ?_
  rintro r w' ⟨rfl,rfl⟩
  go_wp2_with fail
  refine (HD.out HX.out).mono ?_
  rintro r w2 ⟨rfl,ht⟩
  have HT:=zh ht
  clear ht
  go_wp2
  go_end0
  exact⟨rfl,HT.out⟩
 ·have HX:=zh hx
  obtain⟨e,hee⟩:∃e,x.e=e:=⟨_,rfl⟩
  rw[hee] at HE
  have hne:¬e=0:=by rw[← hee];exact hx
  clear hx hee
  go_enter func53,ntmps53
  go_wp2_with fail
  refine HE.out.mono ?_
  rintro r w' ⟨rfl,rfl⟩
  go_wp2
  go_end0
  exact⟨rfl,by rw[HY.out HX.out];exact HB.out.refl⟩
section
variable {B:Nat} {q:kE} {most flags:Int} {κ0:Nat→Nat} {x y:BS} {w w0:World} {Kp:List (Nat × Obj)}
theorem Env.call' {f:Nat} {args:Array Value} {R:Ending→Prop} (h:Env B q most flags w0 κ0 Kp x w) (hc:∀κ,Bd B q most flags κ x w→Env B q most flags w κ Kp x w→Calls prog f args w fun r w'=>R r∧j1 B q most flags κ y w w') :
 Calls prog f args w fun r w'=>R r∧Env B q most flags w0 κ0 Kp y w':=by
 refine Env.call h fun κ hb hz=>hc κ hb ⟨κ,hb,Tn.refl _ _,fun z hm=>⟨?_,hz z hm⟩⟩
 obtain⟨_,_,_,h3⟩:=h
 exact (h3 z hm).1
end
theorem dZ {B:Nat} {q:kE} {most flags:Int} {κ:Nat→Nat} {x:BS} {w:World} (n1 n2:Nat) (ty wd n:Int) (hv:okV (ty,wd,n)) (he:Env B q most flags w κ [(n2,Obj.cells #[.int .i64 ty,.int .i64 wd,.int .u64 n] 92 (0,0)),(n1,Obj.cells #[jF q.p] 23 (0,0))] x w):Calls prog 152 #[.pointer (some ⟨n1,0,none⟩),.pointer (some ⟨n2,0,none⟩)] w fun r w'=>r=.returned (.tuple #[])∧j1 B q most flags κ (x.push (ty,wd,n)) w w':=by
 have HE:=zh he
 clear he
 have HM2:Hid ((n2,Obj.cells #[.int .i64 ty,.int .i64 wd,.int .u64 n] 92 (0,0))∈([(n2,Obj.cells #[.int .i64 ty,.int .i64 wd,.int .u64 n] 92 (0,0)),(n1,Obj.cells #[jF q.p] 23 (0,0))]:List (Nat × Obj))):=List.mem_cons_self
 have HM1:Hid ((n1,Obj.cells #[jF q.p] 23 (0,0))∈([(n2,Obj.cells #[.int .i64 ty,.int .i64 wd,.int .u64 n] 92 (0,0)),(n1,Obj.cells #[jF q.p] 23 (0,0))]:List (Nat × Obj))):=List.mem_cons_of_mem _ List.mem_cons_self
 have HV:=zh hv
 clear hv
 go_enter func152,ntmps152
 go_wp2_with fail
 refine jO [4] (zX B q most flags w κ [(n2,Obj.cells #[.int .i64 ty,.int .i64 wd,.int .u64 n] 92 (0,0)),(n1,Obj.cells #[jF q.p] 23 (0,0))] [x] (x.push (ty,wd,n))) (fun _ w w'=>jB w w') ((fun p (_:Nat→Value)=>(fun _ _ _=>True) p)) [[],[0],[0,1],[],[0,1,2,3]] [[(5,3)],[(2,0),(5,3)],[(2,0),(3,1),(5,3)],[(2,0),(3,1),(4,2)],[(2,0),(3,1),(4,2),(5,3)]] [(2,0),(3,1),(4,2),(5,3),(6,4)]
  [IsP (jF q.p),IsP (jF q.p),IsP (jF q.p),IsP (.agg #[.int .i64 ty,.int .i64 wd,.int .u64 n]),IsP (.tuple #[])]
  zk (zX.grew) (HE.out.grew (jB.refl _).drew) zk zk ⟨jC,jC,jC,jC,jC,trivial⟩ rfl ?_ ?_
 ·intro y w2 hW hF
  simp only[kT,IsP,Nat.reduceAdd,List.length_cons,List.length_nil] at hF hW
  have h0:=hF.1
  have h1:=hF.2.1
  have h2:=hF.2.2.1
  have h3:=hF.2.2.2.1
  have h4:=hF.2.2.2.2.1
  clear hF
  simp only[jA,Act.put,zq1,zq2,zq3,zq4,zq5]
  simp only[h0,h1,h2,h3,h4]
  clear h0 h1 h2 h3 h4
  go_wp2
  go_end0
  exact⟨rfl,Env.turn hW⟩
 refine⟨?_,?_⟩
 ·refine jJ 0 0 ?_
  intro y w2 p hlo hhi hW hD K hK
  obtain rfl:p=0:=by omega
  have d0:=Env.cell hW HM1.out 0 _ rfl
  exact zqr
 refine⟨zqd,zqd,?_⟩
 refine⟨?_,?_⟩
 ·refine jJ 0 0 ?_
  intro y w2 p hlo hhi hW hD K hK
  obtain rfl:p=0:=by omega
  have d0:=Env.cell hW HM2.out 0 _ rfl
  have d1:=Env.cell hW HM2.out 1 _ rfl
  have d2:=Env.cell hW HM2.out 2 _ rfl
  exact zqr
 refine⟨?_,?_⟩
 ·refine jP 0 rfl ?_
  intro y w2 hW hD K hK
  simp only[jU,zq4,zq5,IsP] at hD
  have h0:=hD.1
  have h1:=hD.2.1
  have h2:=hD.2.2.1
  have h3:=hD.2.2.2.1
  clear hD
  generalize hAA:jA y _ _=AA at hK⊢
  simp only[jA,Act.put,zq1,zq2,zq3,zq4,zq5,IsP] at hAA
  subst hAA
  simp only[zq4,zq5,IsP] at hK
  simp only[h0,h1,h2,h3] at hK⊢
  clear h0 h1 h2 h3
  refine jG ?_
  go_simp
  refine (Env.call hW fun κ1 hb hz=>qD (ty,wd,n) HV.out hb).mono ?_
  rintro r w3 ⟨rfl,he⟩
  exact hK _ _ _ rfl trivial he rfl
 trivial
theorem inline_any {B:Nat} {q:kE} {most flags:Int} {κ:Nat→Nat} {x:BS} {w:World} (v:V3) (hv:okV v) (h:Bd B q most flags κ x w):Calls prog 77 #[jF q.p,vV v] w fun r w'=>r=.returned (.tuple #[])∧j1 B q most flags κ (x.inline v) w w':=by
 obtain⟨ty,wd,n⟩:=v
 have HV:=zh hv
 have HE:Hid (Env B q most flags w κ [(w.heap.size+1,Obj.cells #[.int .i64 ty,.int .i64 wd,.int .u64 n] 92 (0,0)),(w.heap.size,Obj.cells #[jF q.p] 23 (0,0))] x ((w.alloc (.cells #[jF q.p] 23)).alloc (.cells #[.int .i64 ty,.int .i64 wd,.int .u64 n] 92))):=by
  have hh:=((Env.start h).add (.cells #[jF q.p] 23)).add (.cells #[.int .i64 ty,.int .i64 wd,.int .u64 n] 92)
  simp only[World.size_alloc,Nat.add_assoc,Nat.reduceAdd] at hh
  exact hh
 clear h hv
 show Calls prog 77 #[jF q.p,.agg #[.int .i64 ty,.int .i64 wd,.int .u64 n]] w _
 go_enter func77,ntmps77
 go_wp2_with fail
 refine (HE.out.call' fun κ1 hb he=>k8 hb _ _ (x.inline (ty,wd,n)) (fun hx=>by unfold BS.inline;rw[if_neg hx]) (fun _=>enters_of func152 zk rfl _ _) (fun hx=>by unfold BS.inline;rw[if_pos hx];exact dZ _ _ ty wd n HV.out he)).mono ?_
 rintro r w5 ⟨rfl,he⟩
 have HT:=zh he
 clear he
 go_wp2
 go_end0
 exact⟨rfl,HT.out.turn⟩
theorem QP (n:Int) (h0 : -9223372036854775808≤n) (h1:n≤9223372036854775807):okV (yG n):=by unfold okV yG;dsimp only;omega
theorem QQ (u:Int) (h0:0≤u) (h1:u≤18446744073709551615):okV (yJ u):=by unfold okV yJ;dsimp only;omega
theorem aX (b:Bool):okV (zD b):=by unfold okV zD;cases b<;>simp
theorem VK (b:Bool) (w:World):Calls prog 80 #[.bool b] w fun r w'=>r=.returned (vV (zD b))∧jB w w':=by
 have hg:=(jB.refl w).alloc (.cells #[.int .i64 0,.int .i64 0,.int .u64 0] 92)
 cases b
 all_goals
  go_enter func80,ntmps80
  go_wp2
  refine bodyPost_ret (v:=vV (zD _)) ?_ rfl ⟨rfl,?_⟩
  ·simp[results,results80,go_sem,vV,zD]
  ·exact ((jB.refl w).alloc _).alloc _
theorem lE {B:Nat} {q:kE} {most flags:Int} {κ:Nat→Nat} {x:BS} {w:World}  (h:Bd B q most flags κ x w):Calls prog 36 #[jF q.p] w fun r w'=>r=.returned (.tuple #[])∧j1 B q most flags κ (x.inline ((0,1,0))) w w':=by
 have HE:=zh h
 clear h
 go_enter func36,ntmps36
 go_wp2_with fail
 refine (inline_any ((0,1,0)) (by unfold okV;simp) HE.out).mono ?_
 rintro r w2 ⟨rfl,ht⟩
 have HT:=zh ht
 clear ht
 go_wp2
 go_end0
 exact⟨rfl,HT.out⟩
theorem aY {B:Nat} {q:kE} {most flags:Int} {κ:Nat→Nat} {x:BS} {w:World} (b:Bool) (h:Bd B q most flags κ x w):Calls prog 23 #[jF q.p,.bool b] w fun r w'=>r=.returned (.tuple #[])∧j1 B q most flags κ (x.inline (zD b)) w w':=by
 have HE:=zh h
 clear h
 go_enter func23,ntmps23
 go_wp2_with fail
 refine (VK b _).mono ?_
 rintro r w1 ⟨rfl,hg⟩
 have HG:=zh hg
 clear hg
 go_wp2_with fail
 refine (inline_any (zD b) (aX b) (HE.out.grew HG.out)).mono ?_
 rintro r w2 ⟨rfl,ht⟩
 have HT:=zh ht
 clear ht
 go_wp2
 go_end0
 exact⟨rfl,HT.out.after HG.out⟩
theorem d7 {B:Nat} {q:kE} {most flags:Int} {κ:Nat→Nat} {x:BS} {w:World} (n:Int) (h0 : -9223372036854775808≤n) (h1:n≤9223372036854775807) (h:Bd B q most flags κ x w):Calls prog 21 #[jF q.p,.int .i64 n] w fun r w'=>r=.returned (.tuple #[])∧j1 B q most flags κ (x.inline (yG n)) w w':=by
 have HE:=zh h
 clear h
 go_enter func21,ntmps21
 go_wp2_with fail
 refine (VI n _ h0 h1).mono ?_
 rintro r w1 ⟨rfl,hg⟩
 have HG:=zh hg
 clear hg
 go_wp2_with fail
 refine (inline_any (yG n) (QP n h0 h1) (HE.out.grew HG.out)).mono ?_
 rintro r w2 ⟨rfl,ht⟩
 have HT:=zh ht
 clear ht
 go_wp2
 go_end0
 exact⟨rfl,HT.out.after HG.out⟩
theorem aZ {B:Nat} {q:kE} {most flags:Int} {κ:Nat→Nat} {x:BS} {w:World} (u:Int) (h0:0≤u) (h1:u≤18446744073709551615) (h:Bd B q most flags κ x w):Calls prog 22 #[jF q.p,.int .u64 u] w fun r w'=>r=.returned (.tuple #[])∧j1 B q most flags κ (x.inline (yJ u)) w w':=by
 have HE:=zh h
 clear h
 go_enter func22,ntmps22
 go_wp2_with fail
 refine (VJ u _ h0 h1).mono ?_
 rintro r w1 ⟨rfl,hg⟩
 have HG:=zh hg
 clear hg
 go_wp2_with fail
 refine (inline_any (yJ u) (QQ u h0 h1) (HE.out.grew HG.out)).mono ?_
 rintro r w2 ⟨rfl,ht⟩
 have HT:=zh ht
 clear ht
 go_wp2
 go_end0
 exact⟨rfl,HT.out.after HG.out⟩
section
variable {B:Nat} {q:kE} {most flags:Int} {κ0:Nat→Nat} {x:BS} {w w0:World} {Kp:List (Nat × Obj)}
theorem Env.buflen (h:Env B q most flags w0 κ0 Kp x w):Calls prog 67 #[jF q.b] w fun r w'=>r=.returned (.int .i64 x.s.1.length)∧w'=w:=by
 obtain⟨κ,hb,_⟩:=h
 exact Go.Proofs.YtjnpcddbgfmpcaaGreat.buflen hb
theorem Env.buferr (h:Env B q most flags w0 κ0 Kp x w):Calls prog 109 #[jF q.b] w fun r w'=>r=.returned (.int .i64 x.s.2)∧w'=w:=by
 obtain⟨κ,hb,_⟩:=h
 exact Go.Proofs.YtjnpcddbgfmpcaaGreat.buferr hb
theorem Env.ok (h:Env B q most flags w0 κ0 Kp x w):x.Ok most:=by obtain⟨κ,hb,_⟩:=h;exact hb.ok
theorem Env.len (h:Env B q most flags w0 κ0 Kp x w):x.s.1.length≤1048576:=by have:=h.ok.len;have:=h.ok.m1;omega
end
theorem d8 (n x:Int) (w:World) (hx:isW x=true) (n0:0≤n) (n1:n≤18446744073709551615):Calls prog 70 #[.int .u64 n,.int .i64 x] w fun r w'=>r=.returned (.int .u64 (kO n x))∧w'=w:=by
 rcases kC hx with rfl|rfl|rfl|rfl
 all_goals
  clear hx
  go_enter func70,ntmps70
  go_wp2
  go_ret
  refine⟨yW ?_,rfl⟩
  unfold kO
  first
   | (show n=_;rw[Int.emod_eq_of_lt n0 (by simp;omega)])
   | (show IntKind.u64.wrap _ / _=_
      simp[IntKind.wrap,IntKind.bits,IntKind.signed]
      omega)
theorem J0 (n:Nat) (h:n≤1048576):IntKind.u64.wrap (n:Int)=n:=by simp[IntKind.wrap,IntKind.bits,IntKind.signed];omega
theorem f9 {B:Nat} {q:kE} {most flags:Int} {κ:Nat→Nat} {x:BS} {w:World} (n1 n2 n3:Nat) (t ty wd u:Int) (hw:isW wd=true) (hv:okV (ty,wd,u)) (ht0 : -9223372036854775808≤t) (ht1:t≤9223372036854775807) (hx:x.e=0) (he:Env B q most flags w κ [(n3,Obj.cells #[.int .i64 ty,.int .i64 wd,.int .u64 u] 92 (0,0)),(n2,Obj.cells #[.int .i64 t] 3 (0,0)),(n1,Obj.cells #[jF q.p] 23 (0,0))] x w):Calls prog 160 #[.pointer (some ⟨n1,0,none⟩),.pointer (some ⟨n3,0,none⟩),.pointer (some ⟨n2,0,none⟩)] w fun r w'=>r=.returned (.tuple #[])∧j1 B q most flags κ (x.apart most t (ty,wd,u)) w w':=by
 have HE:=zh he
 have HY:Hid (x.apart most t (ty,wd,u)=(BS.push (t,wd,((jH most wd x.s).1.length:Int)) {x with s:=jW most wd (kO u wd) (jH most wd x.s)})):=by show _=_;unfold BS.apart;rw[if_pos hx]
 have HIW:=zh hw
 have HU:Hid (0≤u∧u≤18446744073709551615):=by unfold okV at hv;dsimp only at hv;show _∧_;omega
 have HLO:=zh (JT (x:=wd) HU.out.1 HU.out.2)
 have HLN:Hid ((jH most wd x.s).1.length≤1048576):=by have h1:=kJ (x:=wd) he.ok.len;have h2:=he.ok.m1;show _≤_;omega
 have HVT:Hid (okV (t,wd,((jH most wd x.s).1.length:Int))):=by have h:=HLN.out;show (0:Int)≤((jH most wd x.s).1.length:Int)∧((jH most wd x.s).1.length:Int)≤18446744073709551615;omega
 have hwa:=J0 _ HLN.out
 have HM3:Hid ((n3,Obj.cells #[.int .i64 ty,.int .i64 wd,.int .u64 u] 92 (0,0))∈([(n3,Obj.cells #[.int .i64 ty,.int .i64 wd,.int .u64 u] 92 (0,0)),(n2,Obj.cells #[.int .i64 t] 3 (0,0)),(n1,Obj.cells #[jF q.p] 23 (0,0))]:List (Nat × Obj))):=List.mem_cons_self
 have HM2:Hid ((n2,Obj.cells #[.int .i64 t] 3 (0,0))∈([(n3,Obj.cells #[.int .i64 ty,.int .i64 wd,.int .u64 u] 92 (0,0)),(n2,Obj.cells #[.int .i64 t] 3 (0,0)),(n1,Obj.cells #[jF q.p] 23 (0,0))]:List (Nat × Obj))):=List.mem_cons_of_mem _ (List.mem_cons_self)
 have HM1:Hid ((n1,Obj.cells #[jF q.p] 23 (0,0))∈([(n3,Obj.cells #[.int .i64 ty,.int .i64 wd,.int .u64 u] 92 (0,0)),(n2,Obj.cells #[.int .i64 t] 3 (0,0)),(n1,Obj.cells #[jF q.p] 23 (0,0))]:List (Nat × Obj))):=List.mem_cons_of_mem _ (List.mem_cons_of_mem _ (List.mem_cons_self))
 clear he hw hv ht0 ht1 hx
 go_enter func160,ntmps160
 go_wp2_with fail
 refine jO [7] (zX B q most flags w κ [(n3,Obj.cells #[.int .i64 ty,.int .i64 wd,.int .u64 u] 92 (0,0)),(n2,Obj.cells #[.int .i64 t] 3 (0,0)),(n1,Obj.cells #[jF q.p] 23 (0,0))] [x] ({x with s:=jH most wd x.s})) (fun _ w w'=>jB w w') ((fun p (_:Nat→Value)=>(fun _ _ _=>True) p)) [[],[0],[0,1],[0,1,2],[0,1,2,3],[],[5],[0,1,2,3,4,5,6]] [[(9,5),(10,6)],[(4,0),(9,5),(10,6)],[(4,0),(5,1),(9,5),(10,6)],[(4,0),(5,1),(6,2),(9,5),(10,6)],[(4,0),(5,1),(6,2),(7,3),(9,5),(10,6)],[(4,0),(5,1),(6,2),(7,3),(8,4)],[(4,0),(5,1),(6,2),(7,3),(8,4),(9,5)],[(4,0),(5,1),(6,2),(7,3),(8,4),(9,5),(10,6)]] [(4,0),(5,1),(6,2),(7,3),(8,4),(9,5),(10,6),(11,7)]
  [IsP (jF q.p),IsP (jF q.p),IsP (jF q.p),IsP (jF q.p),IsP (jF q.b),IsP (.pointer (some ⟨n3,1,none⟩)),IsP (.int .i64 wd),IsP (.tuple #[])]
  zk (zX.grew) (HE.out.grew (jB.refl _).drew) zk zk ⟨jC,jC,jC,jC,jC,jC,jC,jC,trivial⟩ rfl ?_ ?_
 ·intro y w2 hW hF
  simp only[kT,IsP,Nat.reduceAdd,List.length_cons,List.length_nil] at hF hW
  have h0:=hF.1
  have h1:=hF.2.1
  have h2:=hF.2.2.1
  have h3:=hF.2.2.2.1
  have h4:=hF.2.2.2.2.1
  have h5:=hF.2.2.2.2.2.1
  have h6:=hF.2.2.2.2.2.2.1
  have h7:=hF.2.2.2.2.2.2.2.1
  clear hF
  simp only[jA,Act.put,zq1,zq2,zq3,zq4,zq5]
  simp only[h0,h1,h2,h3,h4,h5,h6,h7]
  clear h0 h1 h2 h3 h4 h5 h6 h7
  have HE1:Hid (Env B q most flags w κ [(n3,Obj.cells #[.int .i64 ty,.int .i64 wd,.int .u64 u] 92 (0,0)),(n2,Obj.cells #[.int .i64 t] 3 (0,0)),(n1,Obj.cells #[jF q.p] 23 (0,0))] ({x with s:=jH most wd x.s}) w2):=hW
  have c0:=HE1.out.at0
  have cb:=Env.cell HE1.out HM1.out 0 _ rfl
  go_wp2_with fail
  refine HE1.out.buflen.mono ?_
  rintro r w9 ⟨rfl,hw9⟩
  obtain rfl:w2=w9:=hw9.symm
  clear c0 cb
  go_wp2_with fail
  refine jO [12] (zX B q most flags w κ [(n3,Obj.cells #[.int .i64 ty,.int .i64 wd,.int .u64 u] 92 (0,0)),(n2,Obj.cells #[.int .i64 t] 3 (0,0)),(n1,Obj.cells #[jF q.p] 23 (0,0))] [{x with s:=jH most wd x.s}] ({x with s:=jW most wd (kO u wd) (jH most wd x.s)})) (fun _ w w'=>jB w w') ((fun p (_:Nat→Value)=>(fun _ _ _=>True) p)) [[],[0],[0,1],[0,1,2],[0,1,2,3],[],[5],[],[7],[],[9],[7,8,9,10],[0,1,2,3,4,5,6,7,8,9,10,11]] [[(23,5),(24,6),(25,7),(26,8),(27,9),(28,10),(29,11)],[(18,0),(23,5),(24,6),(25,7),(26,8),(27,9),(28,10),(29,11)],[(18,0),(19,1),(23,5),(24,6),(25,7),(26,8),(27,9),(28,10),(29,11)],[(18,0),(19,1),(20,2),(23,5),(24,6),(25,7),(26,8),(27,9),(28,10),(29,11)],[(18,0),(19,1),(20,2),(21,3),(23,5),(24,6),(25,7),(26,8),(27,9),(28,10),(29,11)],[(18,0),(19,1),(20,2),(21,3),(22,4),(25,7),(26,8),(27,9),(28,10),(29,11)],[(18,0),(19,1),(20,2),(21,3),(22,4),(23,5),(25,7),(26,8),(27,9),(28,10),(29,11)],[(18,0),(19,1),(20,2),(21,3),(22,4),(23,5),(24,6),(27,9),(28,10)],[(18,0),(19,1),(20,2),(21,3),(22,4),(23,5),(24,6),(25,7),(27,9),(28,10)],[(18,0),(19,1),(20,2),(21,3),(22,4),(23,5),(24,6),(25,7),(26,8)],[(18,0),(19,1),(20,2),(21,3),(22,4),(23,5),(24,6),(25,7),(26,8),(27,9)],[(18,0),(19,1),(20,2),(21,3),(22,4),(23,5),(24,6),(25,7),(26,8),(27,9),(28,10)],[(18,0),(19,1),(20,2),(21,3),(22,4),(23,5),(24,6),(25,7),(26,8),(27,9),(28,10),(29,11)]] [(18,0),(19,1),(20,2),(21,3),(22,4),(23,5),(24,6),(25,7),(26,8),(27,9),(28,10),(29,11),(30,12)]
   [IsP (jF q.p),IsP (jF q.p),IsP (jF q.p),IsP (jF q.p),IsP (jF q.b),IsP (.pointer (some ⟨n3,1,none⟩)),IsP (.int .i64 wd),IsP (.pointer (some ⟨n3,2,none⟩)),IsP (.int .u64 u),IsP (.pointer (some ⟨n3,1,none⟩)),IsP (.int .i64 wd),IsP (.int .u64 (kO u wd)),IsP (.tuple #[])]
   zk (zX.grew) (HE1.out.grew (jB.refl _).drew) zk zk ⟨jC,jC,jC,jC,jC,jC,jC,jC,jC,jC,jC,jC,jC,trivial⟩ rfl ?_ ?_
  ·intro y w2 hW hF
   simp only[kT,IsP,Nat.reduceAdd,List.length_cons,List.length_nil] at hF hW
   have h0:=hF.1
   have h1:=hF.2.1
   have h2:=hF.2.2.1
   have h3:=hF.2.2.2.1
   have h4:=hF.2.2.2.2.1
   have h5:=hF.2.2.2.2.2.1
   have h6:=hF.2.2.2.2.2.2.1
   have h7:=hF.2.2.2.2.2.2.2.1
   have h8:=hF.2.2.2.2.2.2.2.2.1
   have h9:=hF.2.2.2.2.2.2.2.2.2.1
   have h10:=hF.2.2.2.2.2.2.2.2.2.2.1
   have h11:=hF.2.2.2.2.2.2.2.2.2.2.2.1
   have h12:=hF.2.2.2.2.2.2.2.2.2.2.2.2.1
   clear hF
   simp only[jA,Act.put,zq1,zq2,zq3,zq4,zq5]
   simp only[h0,h1,h2,h3,h4,h5,h6,h7,h8,h9,h10,h11,h12]
   clear h0 h1 h2 h3 h4 h5 h6 h7 h8 h9 h10 h11 h12
   have HE2:Hid (Env B q most flags w κ [(n3,Obj.cells #[.int .i64 ty,.int .i64 wd,.int .u64 u] 92 (0,0)),(n2,Obj.cells #[.int .i64 t] 3 (0,0)),(n1,Obj.cells #[jF q.p] 23 (0,0))] ({x with s:=jW most wd (kO u wd) (jH most wd x.s)}) w2):=hW
   go_wp2_with fail
   refine jO [9] (zX B q most flags w κ [(n3,Obj.cells #[.int .i64 ty,.int .i64 wd,.int .u64 u] 92 (0,0)),(n2,Obj.cells #[.int .i64 t] 3 (0,0)),(n1,Obj.cells #[jF q.p] 23 (0,0))] [{x with s:=jW most wd (kO u wd) (jH most wd x.s)}] ((BS.push (t,wd,((jH most wd x.s).1.length:Int)) {x with s:=jW most wd (kO u wd) (jH most wd x.s)}))) (fun _ w w'=>jB w w') ((fun p (_:Nat→Value)=>(fun _ _ _=>True) p)) [[],[0],[0,1],[],[],[4],[],[6],[3,4,5,6,7],[0,1,2,3,4,5,6,7,8]] [[(34,3),(35,4),(36,5),(37,6),(38,7),(39,8)],[(31,0),(34,3),(35,4),(36,5),(37,6),(38,7),(39,8)],[(31,0),(32,1),(34,3),(35,4),(36,5),(37,6),(38,7),(39,8)],[(31,0),(32,1),(33,2),(35,4),(36,5),(37,6),(38,7)],[(31,0),(32,1),(33,2),(34,3),(37,6),(38,7)],[(31,0),(32,1),(33,2),(34,3),(35,4),(37,6),(38,7)],[(31,0),(32,1),(33,2),(34,3),(35,4),(36,5)],[(31,0),(32,1),(33,2),(34,3),(35,4),(36,5),(37,6)],[(31,0),(32,1),(33,2),(34,3),(35,4),(36,5),(37,6),(38,7)],[(31,0),(32,1),(33,2),(34,3),(35,4),(36,5),(37,6),(38,7),(39,8)]] [(31,0),(32,1),(33,2),(34,3),(35,4),(36,5),(37,6),(38,7),(39,8),(40,9)]
    [IsP (jF q.p),IsP (jF q.p),IsP (jF q.p),IsP (.int .i64 t),IsP (.pointer (some ⟨n3,1,none⟩)),IsP (.int .i64 wd),IsP (.int .i64 (jH most wd x.s).1.length),IsP (.int .u64 (jH most wd x.s).1.length),IsP (.agg #[.int .i64 t,.int .i64 wd,.int .u64 (jH most wd x.s).1.length]),IsP (.tuple #[])]
    zk (zX.grew) (HE2.out.grew (jB.refl _).drew) zk zk ⟨jC,jC,jC,jC,jC,jC,jC,jC,jC,jC,trivial⟩ rfl ?_ ?_
   ·intro y w2 hW hF
    simp only[kT,IsP,Nat.reduceAdd,List.length_cons,List.length_nil] at hF hW
    have h0:=hF.1
    have h1:=hF.2.1
    have h2:=hF.2.2.1
    have h3:=hF.2.2.2.1
    have h4:=hF.2.2.2.2.1
    have h5:=hF.2.2.2.2.2.1
    have h6:=hF.2.2.2.2.2.2.1
    have h7:=hF.2.2.2.2.2.2.2.1
    have h8:=hF.2.2.2.2.2.2.2.2.1
    have h9:=hF.2.2.2.2.2.2.2.2.2.1
    clear hF
    simp only[jA,Act.put,zq1,zq2,zq3,zq4,zq5]
    simp only[h0,h1,h2,h3,h4,h5,h6,h7,h8,h9]
    clear h0 h1 h2 h3 h4 h5 h6 h7 h8 h9
    go_wp2
    go_end0
    exact⟨rfl,by rw[HY.out];exact Env.turn hW⟩
   refine⟨?_,?_⟩
   ·refine jJ 0 0 ?_
    intro y w2 p hlo hhi hW hD K hK
    obtain rfl:p=0:=by omega
    have d10:=Env.cell hW HM1.out 0 _ rfl
    exact zqr
   refine⟨zqd,zqd,?_⟩
   refine⟨?_,?_⟩
   ·refine jJ 0 0 ?_
    intro y w2 p hlo hhi hW hD K hK
    obtain rfl:p=0:=by omega
    have d20:=Env.cell hW HM2.out 0 _ rfl
    exact zqr
   refine⟨zqd,?_⟩
   refine⟨?_,?_⟩
   ·refine jJ 0 0 ?_
    intro y w2 p hlo hhi hW hD K hK
    obtain rfl:p=0:=by omega
    have d31:=Env.cell hW HM3.out 1 _ rfl
    exact zqr
   refine⟨zqd,zqd,zqd,?_⟩
   refine⟨?_,?_⟩
   ·refine jP 0 rfl ?_
    intro y w2 hW hD K hK
    simp only[jU,zq4,zq5,IsP] at hD
    have h0:=hD.1
    have h1:=hD.2.1
    have h2:=hD.2.2.1
    have h3:=hD.2.2.2.1
    have h4:=hD.2.2.2.2.1
    have h5:=hD.2.2.2.2.2.1
    have h6:=hD.2.2.2.2.2.2.1
    have h7:=hD.2.2.2.2.2.2.2.1
    have h8:=hD.2.2.2.2.2.2.2.2.1
    clear hD
    generalize hAA:jA y _ _=AA at hK⊢
    simp only[jA,Act.put,zq1,zq2,zq3,zq4,zq5,IsP] at hAA
    subst hAA
    simp only[zq4,zq5,IsP] at hK
    simp only[h0,h1,h2,h3,h4,h5,h6,h7,h8] at hK⊢
    clear h0 h1 h2 h3 h4 h5 h6 h7 h8
    refine jG ?_
    go_simp
    refine (Env.call hW fun κ1 hb hz=>qD (t,wd,((jH most wd x.s).1.length:Int)) HVT.out hb).mono ?_
    rintro r w3 ⟨rfl,he⟩
    exact hK _ _ _ rfl trivial he rfl
   trivial
  refine⟨?_,?_⟩
  ·refine jJ 0 0 ?_
   intro y w2 p hlo hhi hW hD K hK
   obtain rfl:p=0:=by omega
   have d10:=Env.cell hW HM1.out 0 _ rfl
   exact zqr
  refine⟨zqd,zqd,zqd,?_⟩
  refine⟨?_,?_⟩
  ·refine jJ 0 0 ?_
   intro y w2 p hlo hhi hW hD K hK
   obtain rfl:p=0:=by omega
   have dd:=Env.at0 hW
   exact zqr
  refine⟨zqd,?_⟩
  refine⟨?_,?_⟩
  ·refine jJ 0 0 ?_
   intro y w2 p hlo hhi hW hD K hK
   obtain rfl:p=0:=by omega
   have d31:=Env.cell hW HM3.out 1 _ rfl
   exact zqr
  refine⟨zqd,?_⟩
  refine⟨?_,?_⟩
  ·refine jJ 0 0 ?_
   intro y w2 p hlo hhi hW hD K hK
   obtain rfl:p=0:=by omega
   have d32:=Env.cell hW HM3.out 2 _ rfl
   exact zqr
  refine⟨zqd,?_⟩
  refine⟨?_,?_⟩
  ·refine jJ 0 0 ?_
   intro y w2 p hlo hhi hW hD K hK
   obtain rfl:p=0:=by omega
   have d31:=Env.cell hW HM3.out 1 _ rfl
   exact zqr
  refine⟨?_,?_⟩
  ·refine jJ 0 0 ?_
   intro y w2 p hlo hhi hW hD K hK
   simp only[jU,zq4,zq5,IsP] at hD
   generalize hAA:jA y _ _=AA at hK⊢
   simp only[jA,Act.put,zq1,zq2,zq3,zq4,zq5,IsP] at hAA
   subst hAA
   simp only[zq4,zq5,IsP] at hK
   simp only[hD] at hK⊢
   clear hD
   refine jG ?_
   go_simp
   refine (d8 u wd w2 HIW.out HU.out.1 HU.out.2).mono ?_
   rintro r w3 ⟨rfl,hw3⟩
   exact hK _ _ _ rfl (by rw[hw3];exact jB.refl _) rfl
  refine⟨?_,?_⟩
  ·refine jP 0 rfl ?_
   intro y w2 hW hD K hK
   simp only[jU,zq4,zq5,IsP] at hD
   have h0:=hD.1
   have h1:=hD.2.1
   have h2:=hD.2.2.1
   have h3:=hD.2.2.2.1
   have h4:=hD.2.2.2.2.1
   have h5:=hD.2.2.2.2.2.1
   have h6:=hD.2.2.2.2.2.2.1
   have h7:=hD.2.2.2.2.2.2.2.1
   have h8:=hD.2.2.2.2.2.2.2.2.1
   have h9:=hD.2.2.2.2.2.2.2.2.2.1
   have h10:=hD.2.2.2.2.2.2.2.2.2.2.1
   have h11:=hD.2.2.2.2.2.2.2.2.2.2.2.1
   clear hD
   generalize hAA:jA y _ _=AA at hK⊢
   simp only[jA,Act.put,zq1,zq2,zq3,zq4,zq5,IsP] at hAA
   subst hAA
   simp only[zq4,zq5,IsP] at hK
   simp only[h0,h1,h2,h3,h4,h5,h6,h7,h8,h9,h10,h11] at hK⊢
   clear h0 h1 h2 h3 h4 h5 h6 h7 h8 h9 h10 h11
   refine jG ?_
   go_simp
   refine (Env.call hW fun κ1 hb hz=>hb.buf_calls (x:={x with s:=jH most wd x.s}) (zW hb.ok.len) (fun o ho _=>yI (jH most wd x.s) wd (kO u wd) ho (Nat.zero_le _) hb.ok.len hb.ok.m1 HLO.out.1 HLO.out.2)).mono ?_
   rintro r w3 ⟨rfl,he⟩
   exact hK _ _ _ rfl trivial he rfl
  trivial
 refine⟨?_,?_⟩
 ·refine jJ 0 0 ?_
  intro y w2 p hlo hhi hW hD K hK
  obtain rfl:p=0:=by omega
  have d10:=Env.cell hW HM1.out 0 _ rfl
  exact zqr
 refine⟨zqd,zqd,zqd,?_⟩
 refine⟨?_,?_⟩
 ·refine jJ 0 0 ?_
  intro y w2 p hlo hhi hW hD K hK
  obtain rfl:p=0:=by omega
  have dd:=Env.at0 hW
  exact zqr
 refine⟨zqd,?_⟩
 refine⟨?_,?_⟩
 ·refine jJ 0 0 ?_
  intro y w2 p hlo hhi hW hD K hK
  obtain rfl:p=0:=by omega
  have d31:=Env.cell hW HM3.out 1 _ rfl
  exact zqr
 refine⟨?_,?_⟩
 ·refine jP 0 rfl ?_
  intro y w2 hW hD K hK
  simp only[jU,zq4,zq5,IsP] at hD
  have h0:=hD.1
  have h1:=hD.2.1
  have h2:=hD.2.2.1
  have h3:=hD.2.2.2.1
  have h4:=hD.2.2.2.2.1
  have h5:=hD.2.2.2.2.2.1
  have h6:=hD.2.2.2.2.2.2.1
  clear hD
  generalize hAA:jA y _ _=AA at hK⊢
  simp only[jA,Act.put,zq1,zq2,zq3,zq4,zq5,IsP] at hAA
  subst hAA
  simp only[zq4,zq5,IsP] at hK
  simp only[h0,h1,h2,h3,h4,h5,h6] at hK⊢
  clear h0 h1 h2 h3 h4 h5 h6
  refine jG ?_
  go_simp
  refine (Env.call hW fun κ1 hb hz=>hb.buf_calls (kJ hb.ok.len) (fun o ho _=>qU x.s wd ho (Nat.zero_le _) hb.ok.len hb.ok.m1)).mono ?_
  rintro r w3 ⟨rfl,he⟩
  exact hK _ _ _ rfl trivial he rfl
 trivial
theorem a6 {B:Nat} {q:kE} {most flags:Int} {κ:Nat→Nat} {x:BS} {w:World} (t:Int) (v:V3) (hw:isW v.2.1=true) (hv:okV v) (ht0 : -9223372036854775808≤t) (ht1:t≤9223372036854775807) (h:Bd B q most flags κ x w):Calls prog 93 #[jF q.p,.int .i64 t,vV v] w fun r w'=>r=.returned (.tuple #[])∧j1 B q most flags κ (x.apart most t v) w w':=by
 obtain⟨ty,wd,u⟩:=v
 have HV:=zh hv
 have HIW:Hid (isW wd=true):=hw
 have HT0:=zh (And.intro ht0 ht1)
 have HE:Hid (Env B q most flags w κ [(w.heap.size+2,Obj.cells #[.int .i64 ty,.int .i64 wd,.int .u64 u] 92 (0,0)),(w.heap.size+1,Obj.cells #[.int .i64 t] 3 (0,0)),(w.heap.size,Obj.cells #[jF q.p] 23 (0,0))] x (((w.alloc (.cells #[jF q.p] 23)).alloc (.cells #[.int .i64 t] 3)).alloc (.cells #[.int .i64 ty,.int .i64 wd,.int .u64 u] 92))):=by
  have hh:=(((Env.start h).add (.cells #[jF q.p] 23)).add (.cells #[.int .i64 t] 3)).add (.cells #[.int .i64 ty,.int .i64 wd,.int .u64 u] 92)
  simp only[World.size_alloc,Nat.add_assoc,Nat.reduceAdd] at hh
  exact hh
 clear h hv hw
 show Calls prog 93 #[jF q.p,.int .i64 t,.agg #[.int .i64 ty,.int .i64 wd,.int .u64 u]] w _
 go_enter func93,ntmps93
 go_wp2_with fail
 refine (HE.out.call' fun κ1 hb he=>k8 hb _ _ (x.apart most t (ty,wd,u)) (fun hx=>by unfold BS.apart;rw[if_neg hx]) (fun _=>enters_of func160 zk rfl _ _) (fun hx=>f9 _ _ _ t ty wd u HIW.out HV.out HT0.out.1 HT0.out.2 hx he)).mono ?_
 rintro r w5 ⟨rfl,he⟩
 have HT:=zh he
 clear he
 go_wp2
 go_end0
 exact⟨rfl,HT.out.turn⟩
theorem gA (n:Int):isW (qO n)=true:=by
 unfold qO
 repeat' split
 all_goals rfl
theorem yV (n:Nat):isW (Ft.widthOf n)=true:=by
 unfold Ft.widthOf
 repeat' split
 all_goals rfl
theorem d9 {B:Nat} {q:kE} {most flags:Int} {κ:Nat→Nat} {x:BS} {w:World} (n:Int) (h0 : -9223372036854775808≤n) (h1:n≤9223372036854775807) (h:Bd B q most flags κ x w):Calls prog 37 #[jF q.p,.int .i64 n] w fun r w'=>r=.returned (.tuple #[])∧j1 B q most flags κ (x.apart most 6 (yG n)) w w':=by
 have HE:=zh h
 clear h
 go_enter func37,ntmps37
 go_wp2_with fail
 refine (VI n _ h0 h1).mono ?_
 rintro r w1 ⟨rfl,hg⟩
 have HG:=zh hg
 clear hg
 go_wp2_with fail
 refine (a6 6 (yG n) (gA n) (QP n h0 h1) (by decide) (by decide) (HE.out.grew HG.out)).mono ?_
 rintro r w2 ⟨rfl,ht⟩
 have HT:=zh ht
 clear ht
 go_wp2
 go_end0
 exact⟨rfl,HT.out.after HG.out⟩
theorem cD {B:Nat} {q:kE} {most flags:Int} {κ:Nat→Nat} {x:BS} {w:World} (u:Int) (h0:0≤u) (h1:u≤18446744073709551615) (h:Bd B q most flags κ x w):Calls prog 38 #[jF q.p,.int .u64 u] w fun r w'=>r=.returned (.tuple #[])∧j1 B q most flags κ (x.apart most 7 (yJ u)) w w':=by
 have HE:=zh h
 clear h
 go_enter func38,ntmps38
 go_wp2_with fail
 refine (VJ u _ h0 h1).mono ?_
 rintro r w1 ⟨rfl,hg⟩
 have HG:=zh hg
 clear hg
 go_wp2_with fail
 refine (a6 7 (yJ u) (yV _) (QQ u h0 h1) (by decide) (by decide) (HE.out.grew HG.out)).mono ?_
 rintro r w2 ⟨rfl,ht⟩
 have HT:=zh ht
 clear ht
 go_wp2
 go_end0
 exact⟨rfl,HT.out.after HG.out⟩
section
variable {B:Nat} {q:kE} {most flags:Int} {κ0:Nat→Nat} {x:BS} {w w0:World} {Kp:List (Nat × Obj)}
theorem Env.keysGet (k:ByteArray) (h:Env B q most flags w0 κ0 Kp x w):Calls prog 55 #[jF q.k,.string k] w fun r w'=>r=.returned (.tuple #[.int .i64 (yF x.keys k).1,.bool (yF x.keys k).2])∧jB w w':=by
 obtain⟨κ,hb,_⟩:=h
 exact cC k hb.keys
theorem Env.textsGet (k:ByteArray) (h:Env B q most flags w0 κ0 Kp x w):Calls prog 55 #[jF q.t,.string k] w fun r w'=>r=.returned (.tuple #[.int .i64 (yF x.texts k).1,.bool (yF x.texts k).2])∧jB w w':=by
 obtain⟨κ,hb,_⟩:=h
 exact cC k hb.texts
theorem Env.listsGet (k:ByteArray) (h:Env B q most flags w0 κ0 Kp x w):Calls prog 55 #[jF q.l,.string k] w fun r w'=>r=.returned (.tuple #[.int .i64 (yF x.lists k).1,.bool (yF x.lists k).2])∧jB w w':=by
 obtain⟨κ,hb,_⟩:=h
 exact cC k hb.lists
theorem Env.onE (flag:Int) (h:Env B q most flags w0 κ0 Kp x w):Calls prog 56 #[.pointer (some ⟨q.p,3,none⟩),.int .i64 flag] w fun r w'=>r=.returned (.bool (onF flags flag))∧w'=w:=by
 obtain⟨κ,hb,_⟩:=h
 exact on_any flag hb
theorem Env.keysPut (k:ByteArray) (a:Int) (hl:x.keys.length≤1048576) (h:Env B q most flags w0 κ0 Kp x w):Calls prog 113 #[jF q.k,.string k,.int .i64 a] w fun r w'=>r=.returned (.int .i64 (qK k a x.keys))∧Env B q most flags w0 κ0 Kp {x with keys:=zE k a x.keys} w':=
 h.call fun κ hb hz=>(VH k a hb.keys hb.ok.keys).mono fun r w' hr=>⟨hr.1,hb.keys_step (Nat.le_trans (qB k a x.keys) (by omega)) (cA hb.ok.okK) hr.2⟩
theorem Env.textsPut (k:ByteArray) (a:Int) (hl:x.texts.length≤1048576) (h:Env B q most flags w0 κ0 Kp x w):Calls prog 113 #[jF q.t,.string k,.int .i64 a] w fun r w'=>r=.returned (.int .i64 (qK k a x.texts))∧Env B q most flags w0 κ0 Kp {x with texts:=zE k a x.texts} w':=
 h.call fun κ hb hz=>(VH k a hb.texts hb.ok.texts).mono fun r w' hr=>⟨hr.1,hb.texts_step (Nat.le_trans (qB k a x.texts) (by omega)) (cA hb.ok.okT) hr.2⟩
theorem Env.listsPut (k:ByteArray) (a:Int) (hl:x.lists.length≤1048576) (h:Env B q most flags w0 κ0 Kp x w):Calls prog 113 #[jF q.l,.string k,.int .i64 a] w fun r w'=>r=.returned (.int .i64 (qK k a x.lists))∧Env B q most flags w0 κ0 Kp {x with lists:=zE k a x.lists} w':=
 h.call fun κ hb hz=>(VH k a hb.lists hb.ok.lists).mono fun r w' hr=>⟨hr.1,hb.lists_step (Nat.le_trans (qB k a x.lists) (by omega)) hr.2⟩
theorem Env.text2 (a b:ByteArray) (hss:zB [a,b]≤1073741824) (h:Env B q most flags w0 κ0 Kp x w):Calls prog 72 #[jF q.b,.slice (some ⟨w.heap.size,0,none⟩) 2 2] (w.alloc (.cells #[.string a,.string b] 9)) fun r w'=>r=.returned (.tuple #[])∧Env B q most flags w0 κ0 Kp {x with s:=j7 most (jS [a,b]) x.s} w':=
 h.callw fun κ hb hz=>by
  obtain⟨h0,o,h1,h2⟩:=hb.buf
  refine (mF x.s a b _ rfl h1 (Nat.zero_le _) hb.ok.len hb.ok.m1 hss).mono fun r w' hr=>⟨hr.1,?_⟩
  obtain⟨S',k1,k2,k3⟩:=YV.turn (S:=fun k=>κ k=2) h0 h1 h2 hr.2
  exact hb.buf_step (KX hb.ok.len) k1 k2 k3
theorem Env.name (k:ByteArray) (a:Int) {w':World} (h:Env B q most flags w0 κ0 Kp x w) (hb':V5 w' q.m (qA x.names++[(a,.string k)])) (ho:w'.os=w.os) (ht:w'.tape=w.tape) (hp:w'.output=w.output) (hs:w'.heap.size=w.heap.size) (hk:∀j,j≠q.m→w'.heap[j]? = w.heap[j]?) :
 Env B q most flags w0 κ0 Kp {x with names:=x.names++[(a,k)]} w':=
 h.after fun κ hb hz=>hb.names_step (by simpa [qA] using hb') ⟨ho,ht,hp,Nat.le_of_eq hs.symm,fun j _ hne=>hk j hne⟩
theorem Env.namesAt (h:Env B q most flags w0 κ0 Kp x w):V5 w q.m (qA x.names):=by
 obtain⟨κ,hb,_⟩:=h
 exact hb.names.2
end
theorem VL {n:Int}:∀{l:List (Int × ByteArray)} (i:Nat),(∀z∈l,z.1 < n)→J7 n (qA l) i=none
 | [],_,_=>rfl
 | z::r,i,h=>by
  have h1:=h z List.mem_cons_self
  show (if n=z.1 then _ else J7 n (qA r) (i+1))=none
  rw[if_neg (by omega)]
  exact VL (i+1) fun z hz=>h z (List.mem_cons_of_mem _ hz)
theorem eA {B:Nat} {q:kE} {most flags:Int} {κ:Nat→Nat} {x:BS} {w:World} (k:ByteArray) (hk:k.size≤1048576) (hg:x.Good) (h:Bd B q most flags κ x w):Calls prog 95 #[jF q.p,.string k] w fun r w'=>r=.returned (vV (x.put most (onF flags 1) k).1)∧j1 B q most flags κ (x.put most (onF flags 1) k).2 w w':=by
 have HG:=zh hg
 have HE:Hid (Env B q most flags w κ [(w.heap.size,Obj.cells #[.int .i64 0,.int .i64 0,.int .u64 0] 92 (0,0))] x (w.alloc (.cells #[.int .i64 0,.int .i64 0,.int .u64 0] 92))):=(Env.start h).add _
 have HSS:Hid (zB [k,⟨#[0]⟩]≤1073741824):=by have e:(⟨#[0]⟩:ByteArray).size=1:=rfl;show _≤_;simp[zB,e];omega
 have HM:Hid ((w.heap.size,Obj.cells #[.int .i64 0,.int .i64 0,.int .u64 0] 92 (0,0))∈([(w.heap.size,Obj.cells #[.int .i64 0,.int .i64 0,.int .u64 0] 92 (0,0))]:List (Nat × Obj))):=List.mem_cons_self
 clear h hg hk
 go_enter func95,ntmps95
 go_wp2_with fail
 generalize (w.alloc (.cells #[.int .i64 0,.int .i64 0,.int .u64 0] 92))=w1 at *
 refine jO [5] (zX B q most flags w κ [(w.heap.size,Obj.cells #[.int .i64 0,.int .i64 0,.int .u64 0] 92 (0,0))] [x] (x.fail (JQ k))) (fun _ w w'=>jB w w') ((fun p (_:Nat→Value)=>(fun _ _ _=>True) p)) [[],[0],[0,1],[],[3],[0,1,2,3,4]] [[(10,3),(11,4)],[(7,0),(10,3),(11,4)],[(7,0),(8,1),(10,3),(11,4)],[(7,0),(8,1),(9,2)],[(7,0),(8,1),(9,2),(10,3)],[(7,0),(8,1),(9,2),(10,3),(11,4)]] [(7,0),(8,1),(9,2),(10,3),(11,4),(12,5)]
  [IsP (jF q.p),IsP (jF q.p),IsP (jF q.p),IsP (.string k),IsP (.int .i64 (JQ k)),IsP (.tuple #[])]
  zk (zX.grew) (HE.out.grew (jB.refl _).drew) zk zk ⟨jC,jC,jC,jC,jC,jC,trivial⟩ rfl ?_ ?_
 ·intro y w2 hW hF
  simp only[kT,IsP,Nat.reduceAdd,List.length_cons,List.length_nil] at hF hW
  have h0:=hF.1
  have h1:=hF.2.1
  have h2:=hF.2.2.1
  have h3:=hF.2.2.2.1
  have h4:=hF.2.2.2.2.1
  have h5:=hF.2.2.2.2.2.1
  clear hF
  simp only[jA,Act.put,zq1,zq2,zq3,zq4,zq5]
  simp only[h0,h1,h2,h3,h4,h5]
  clear h0 h1 h2 h3 h4 h5
  have HE1:Hid (Env B q most flags w κ [(w.heap.size,Obj.cells #[.int .i64 0,.int .i64 0,.int .u64 0] 92 (0,0))] (x.fail (JQ k)) w2):=hW
  have c2:=HE1.out.at2
  by_cases hf:(x.fail (JQ k)).e=0
  ·have hx0:x.e=0∧JQ k=0:=by
    have hh:kF x.e (JQ k)=0:=hf
    unfold kF at hh
    split at hh
    ·exact⟨by assumption,hh⟩
    ·exact absurd hh (by assumption)
   have hxx:x.fail (JQ k)=x:=by unfold BS.fail kF;rw[if_pos hx0.1,hx0.2,← hx0.1]
   have HE2:Hid (Env B q most flags w κ [(w.heap.size,Obj.cells #[.int .i64 0,.int .i64 0,.int .u64 0] 92 (0,0))] x w2):=by have h:=HE1.out;rw[hxx] at h;exact h
   have HX0:=zh hx0
   rw[hf] at c2
   have HXX:=zh hxx
   have HKL:Hid (x.keys.length≤1048576):=Nat.le_trans (HG.out.ks hx0.1) HE2.out.len
   have HLN:Hid (x.s.1.length≤1048576):=HE2.out.len
   have HNEW:Hid (J7 (x.s.1.length:Int) (qA x.names) 0=none):=VL 0 (HG.out.nm hx0.1)
   have HPU:Hid (∀b,(yF x.keys k).2=b→x.put most (onF flags 1) k=if b && (onF flags 1) then ((4,1,(yF x.keys k).1),x) else ((4,1,(x.s.1.length:Int)),({x with s:=j7 most (jS [k,⟨#[0]⟩]) x.s,keys:=zE k (x.s.1.length:Int) x.keys,names:=x.names++[((x.s.1.length:Int),k)]}:BS).fail (j7 most (jS [k,⟨#[0]⟩]) x.s).2)):=by
    show ∀b,_→_=_
    intro b hb
    unfold BS.put
    rw[hxx]
    simp only[hx0.1,ne_eq,not_true_eq_false,if_false,hb]
    split
    ·rfl
    ·simp only[BS.fail,kF,hx0.1,if_true]
   clear hf hx0 hxx HE1
   have c4:=HE2.out.at4
   go_wp2_with fail
   refine (HE2.out.keysGet k).mono ?_
   rintro r w3 ⟨rfl,hg3⟩
   have HE3:=zh (HE2.out.grew hg3)
   clear hg3 c4 c2
   have HGO:=zh (QO (k:=k) HE3.out.ok.okK)
   have HPB:=zh (HPU.out _ rfl)
   generalize yF x.keys k=g at *
   obtain⟨ga,gb⟩:=g
   cases gb with
   | false=>
    have HP:Hid (x.put most (onF flags 1) k=((4,1,(x.s.1.length:Int)),({x with s:=j7 most (jS [k,⟨#[0]⟩]) x.s,keys:=zE k (x.s.1.length:Int) x.keys,names:=x.names++[((x.s.1.length:Int),k)]}:BS).fail (j7 most (jS [k,⟨#[0]⟩]) x.s).2)):=HPB.out
    have c0:=HE3.out.at0
    go_wp2_with fail
    refine HE3.out.buflen.mono ?_
    rintro r w9 ⟨rfl,hw9⟩
    obtain rfl:w3=w9:=hw9.symm
    go_wp2_with fail
    refine (HE3.out.text2 k ⟨#[0]⟩ HSS.out).mono ?_
    rintro r w4 ⟨rfl,he⟩
    have HE4:=zh he
    clear he c0
    have c4:=HE4.out.at4
    go_wp2_with fail
    refine (HE4.out.keysPut k (x.s.1.length:Int) (show ({x with s:=j7 most (jS [k,⟨#[0]⟩]) x.s}:BS).keys.length≤1048576 from HKL.out)).mono ?_
    rintro r w5 ⟨rfl,he⟩
    have HE5:=zh he
    clear he c4
    have c7:=HE5.out.at7
    have hwa:=J0 _ HLN.out
    go_wp2_with (refine Y8 _ underlying50 underlying32 rfl _ _ _ rfl q.m (qA x.names) rfl HE5.out.namesAt (x.s.1.length:Int) rfl _ rfl HNEW.out ?_;intro w6 hb' ho ht hp hs hk;have HE6:=zh (HE5.out.name k (x.s.1.length:Int) hb' ho ht hp hs hk);clear hb' ho ht hp hs hk c7)
    refine jO [9] (zX B q most flags w κ [(w.heap.size,Obj.cells #[.int .i64 0,.int .i64 0,.int .u64 0] 92 (0,0))] [{x with s:=j7 most (jS [k,⟨#[0]⟩]) x.s,keys:=zE k (x.s.1.length:Int) x.keys,names:=x.names++[((x.s.1.length:Int),k)]}] (({x with s:=j7 most (jS [k,⟨#[0]⟩]) x.s,keys:=zE k (x.s.1.length:Int) x.keys,names:=x.names++[((x.s.1.length:Int),k)]}:BS).fail (j7 most (jS [k,⟨#[0]⟩]) x.s).2)) (fun _ w w'=>jB w w') ((fun p (_:Nat→Value)=>(fun _ _ _=>True) p)) [[],[0],[0,1],[],[3],[3,4],[3,4,5],[3,4,5,6],[3,4,5,6,7],[0,1,2,3,4,5,6,7,8]] [[(72,3),(73,4),(74,5),(75,6),(76,7),(77,8)],[(69,0),(72,3),(73,4),(74,5),(75,6),(76,7),(77,8)],[(69,0),(70,1),(72,3),(73,4),(74,5),(75,6),(76,7),(77,8)],[(69,0),(70,1),(71,2)],[(69,0),(70,1),(71,2),(72,3)],[(69,0),(70,1),(71,2),(72,3),(73,4)],[(69,0),(70,1),(71,2),(72,3),(73,4),(74,5)],[(69,0),(70,1),(71,2),(72,3),(73,4),(74,5),(75,6)],[(69,0),(70,1),(71,2),(72,3),(73,4),(74,5),(75,6),(76,7)],[(69,0),(70,1),(71,2),(72,3),(73,4),(74,5),(75,6),(76,7),(77,8)]] [(69,0),(70,1),(71,2),(72,3),(73,4),(74,5),(75,6),(76,7),(77,8),(78,9)]
     [IsP (jF q.p),IsP (jF q.p),IsP (jF q.p),IsP (jF q.p),IsP (jF q.p),IsP (jF q.p),IsP (jF q.p),IsP (jF q.b),IsP (.int .i64 (j7 most (jS [k,⟨#[0]⟩]) x.s).2),IsP (.tuple #[])]
     zk (zX.grew) (HE6.out.grew (jB.refl _).drew) zk zk ⟨jC,jC,jC,jC,jC,jC,jC,jC,jC,jC,trivial⟩ rfl ?_ ?_
    ·intro y w2 hW hF
     simp only[kT,IsP,Nat.reduceAdd,List.length_cons,List.length_nil] at hF hW
     have h0:=hF.1
     have h1:=hF.2.1
     have h2:=hF.2.2.1
     have h3:=hF.2.2.2.1
     have h4:=hF.2.2.2.2.1
     have h5:=hF.2.2.2.2.2.1
     have h6:=hF.2.2.2.2.2.2.1
     have h7:=hF.2.2.2.2.2.2.2.1
     have h8:=hF.2.2.2.2.2.2.2.2.1
     have h9:=hF.2.2.2.2.2.2.2.2.2.1
     clear hF
     simp only[jA,Act.put,zq1,zq2,zq3,zq4,zq5]
     simp only[h0,h1,h2,h3,h4,h5,h6,h7,h8,h9]
     clear h0 h1 h2 h3 h4 h5 h6 h7 h8 h9
     have HE8:Hid (Env B q most flags w κ [(w.heap.size,Obj.cells #[.int .i64 0,.int .i64 0,.int .u64 0] 92 (0,0))] (({x with s:=j7 most (jS [k,⟨#[0]⟩]) x.s,keys:=zE k (x.s.1.length:Int) x.keys,names:=x.names++[((x.s.1.length:Int),k)]}:BS).fail (j7 most (jS [k,⟨#[0]⟩]) x.s).2) w2):=hW
     have jL:=HE8.out.kp HM.out
     have c0:=jK jL 0 _ rfl
     have c1:=jK jL 1 _ rfl
     have c2:=jK jL 2 _ rfl
     have f0:=jE jL 0
     have f1:=jE jL 1
     have f2:=jE jL 2
     clear jL
     go_wp2_with fail
     refine bodyPost_ret (v:=vV (4,1,(x.s.1.length:Int))) (by simp[results,results95,go_sem,c0,c1,c2,vV]) rfl ?_
     exact⟨by rw[HP.out],by rw[HP.out];exact HE8.out.told HM.out (Nat.le_refl _) (Moved.setCell (p:=⟨w.heap.size,2,none⟩) (Moved.setCell (p:=⟨w.heap.size,1,none⟩) (Moved.setCell (p:=⟨w.heap.size,0,none⟩) (Moved.refl (fun k=>k=w.heap.size) _) (fun _=>rfl) _) (fun _=>rfl) _) (fun _=>rfl) _)⟩
    refine⟨zqd,zqd,zqd,zqd,zqd,zqd,zqd,?_⟩
    refine⟨?_,?_⟩
    ·refine jJ 0 0 ?_
     intro y w2 p hlo hhi hW hD K hK
     obtain rfl:p=0:=by omega
     have dd:=Env.at0 hW
     exact zqr
    refine⟨?_,?_⟩
    ·refine jJ 0 0 ?_
     intro y w2 p hlo hhi hW hD K hK
     simp only[jU,zq4,zq5,IsP] at hD
     generalize hAA:jA y _ _=AA at hK⊢
     simp only[jA,Act.put,zq1,zq2,zq3,zq4,zq5,IsP] at hAA
     subst hAA
     simp only[zq4,zq5,IsP] at hK
     simp only[hD] at hK⊢
     clear hD
     refine jG ?_
     go_simp
     obtain rfl:p=0:=by omega
     refine (Env.buferr hW).mono ?_
     rintro r w3 ⟨rfl,hw3⟩
     exact hK _ _ _ rfl (by rw[hw3];exact jB.refl _) rfl
    refine⟨?_,?_⟩
    ·refine jP 0 rfl ?_
     intro y w2 hW hD K hK
     simp only[jU,zq4,zq5,IsP] at hD
     have h0:=hD.1
     have h1:=hD.2.1
     have h2:=hD.2.2.1
     have h3:=hD.2.2.2.1
     have h4:=hD.2.2.2.2.1
     have h5:=hD.2.2.2.2.2.1
     have h6:=hD.2.2.2.2.2.2.1
     have h7:=hD.2.2.2.2.2.2.2.1
     have h8:=hD.2.2.2.2.2.2.2.2.1
     clear hD
     generalize hAA:jA y _ _=AA at hK⊢
     simp only[jA,Act.put,zq1,zq2,zq3,zq4,zq5,IsP] at hAA
     subst hAA
     simp only[zq4,zq5,IsP] at hK
     simp only[h0,h1,h2,h3,h4,h5,h6,h7,h8] at hK⊢
     clear h0 h1 h2 h3 h4 h5 h6 h7 h8
     refine jG ?_
     go_simp
     refine (Env.call hW fun κ1 hb hz=>kN _ hb).mono ?_
     rintro r w3 ⟨rfl,he⟩
     exact hK _ _ _ rfl trivial he rfl
    trivial
   | true=>
    cases ho:onF flags 1 with
    | false=>
     have HP:Hid (x.put most (onF flags 1) k=((4,1,(x.s.1.length:Int)),({x with s:=j7 most (jS [k,⟨#[0]⟩]) x.s,keys:=zE k (x.s.1.length:Int) x.keys,names:=x.names++[((x.s.1.length:Int),k)]}:BS).fail (j7 most (jS [k,⟨#[0]⟩]) x.s).2)):=by have h:=HPB.out;rw[ho] at h;rw[ho];exact h
     have HO:=zh ho
     clear ho
     go_wp2_with fail
     refine (HE3.out.onE 1).mono ?_
     rw[HO.out]
     rintro r w9 ⟨rfl,hw9⟩
     obtain rfl:w3=w9:=hw9.symm
     have c0:=HE3.out.at0
     go_wp2_with fail
     refine HE3.out.buflen.mono ?_
     rintro r w9 ⟨rfl,hw9⟩
     obtain rfl:w3=w9:=hw9.symm
     go_wp2_with fail
     refine (HE3.out.text2 k ⟨#[0]⟩ HSS.out).mono ?_
     rintro r w4 ⟨rfl,he⟩
     have HE4:=zh he
     clear he c0
     have c4:=HE4.out.at4
     go_wp2_with fail
     refine (HE4.out.keysPut k (x.s.1.length:Int) (show ({x with s:=j7 most (jS [k,⟨#[0]⟩]) x.s}:BS).keys.length≤1048576 from HKL.out)).mono ?_
     rintro r w5 ⟨rfl,he⟩
     have HE5:=zh he
     clear he c4
     have c7:=HE5.out.at7
     have hwa:=J0 _ HLN.out
     go_wp2_with (refine Y8 _ underlying50 underlying32 rfl _ _ _ rfl q.m (qA x.names) rfl HE5.out.namesAt (x.s.1.length:Int) rfl _ rfl HNEW.out ?_;intro w6 hb' ho ht hp hs hk;have HE6:=zh (HE5.out.name k (x.s.1.length:Int) hb' ho ht hp hs hk);clear hb' ho ht hp hs hk c7)
     refine jO [9] (zX B q most flags w κ [(w.heap.size,Obj.cells #[.int .i64 0,.int .i64 0,.int .u64 0] 92 (0,0))] [{x with s:=j7 most (jS [k,⟨#[0]⟩]) x.s,keys:=zE k (x.s.1.length:Int) x.keys,names:=x.names++[((x.s.1.length:Int),k)]}] (({x with s:=j7 most (jS [k,⟨#[0]⟩]) x.s,keys:=zE k (x.s.1.length:Int) x.keys,names:=x.names++[((x.s.1.length:Int),k)]}:BS).fail (j7 most (jS [k,⟨#[0]⟩]) x.s).2)) (fun _ w w'=>jB w w') ((fun p (_:Nat→Value)=>(fun _ _ _=>True) p)) [[],[0],[0,1],[],[3],[3,4],[3,4,5],[3,4,5,6],[3,4,5,6,7],[0,1,2,3,4,5,6,7,8]] [[(72,3),(73,4),(74,5),(75,6),(76,7),(77,8)],[(69,0),(72,3),(73,4),(74,5),(75,6),(76,7),(77,8)],[(69,0),(70,1),(72,3),(73,4),(74,5),(75,6),(76,7),(77,8)],[(69,0),(70,1),(71,2)],[(69,0),(70,1),(71,2),(72,3)],[(69,0),(70,1),(71,2),(72,3),(73,4)],[(69,0),(70,1),(71,2),(72,3),(73,4),(74,5)],[(69,0),(70,1),(71,2),(72,3),(73,4),(74,5),(75,6)],[(69,0),(70,1),(71,2),(72,3),(73,4),(74,5),(75,6),(76,7)],[(69,0),(70,1),(71,2),(72,3),(73,4),(74,5),(75,6),(76,7),(77,8)]] [(69,0),(70,1),(71,2),(72,3),(73,4),(74,5),(75,6),(76,7),(77,8),(78,9)]
      [IsP (jF q.p),IsP (jF q.p),IsP (jF q.p),IsP (jF q.p),IsP (jF q.p),IsP (jF q.p),IsP (jF q.p),IsP (jF q.b),IsP (.int .i64 (j7 most (jS [k,⟨#[0]⟩]) x.s).2),IsP (.tuple #[])]
      zk (zX.grew) (HE6.out.grew (jB.refl _).drew) zk zk ⟨jC,jC,jC,jC,jC,jC,jC,jC,jC,jC,trivial⟩ rfl ?_ ?_
     ·intro y w2 hW hF
      simp only[kT,IsP,Nat.reduceAdd,List.length_cons,List.length_nil] at hF hW
      have h0:=hF.1
      have h1:=hF.2.1
      have h2:=hF.2.2.1
      have h3:=hF.2.2.2.1
      have h4:=hF.2.2.2.2.1
      have h5:=hF.2.2.2.2.2.1
      have h6:=hF.2.2.2.2.2.2.1
      have h7:=hF.2.2.2.2.2.2.2.1
      have h8:=hF.2.2.2.2.2.2.2.2.1
      have h9:=hF.2.2.2.2.2.2.2.2.2.1
      clear hF
      simp only[jA,Act.put,zq1,zq2,zq3,zq4,zq5]
      simp only[h0,h1,h2,h3,h4,h5,h6,h7,h8,h9]
      clear h0 h1 h2 h3 h4 h5 h6 h7 h8 h9
      have HE8:Hid (Env B q most flags w κ [(w.heap.size,Obj.cells #[.int .i64 0,.int .i64 0,.int .u64 0] 92 (0,0))] (({x with s:=j7 most (jS [k,⟨#[0]⟩]) x.s,keys:=zE k (x.s.1.length:Int) x.keys,names:=x.names++[((x.s.1.length:Int),k)]}:BS).fail (j7 most (jS [k,⟨#[0]⟩]) x.s).2) w2):=hW
      have jL:=HE8.out.kp HM.out
      have c0:=jK jL 0 _ rfl
      have c1:=jK jL 1 _ rfl
      have c2:=jK jL 2 _ rfl
      have f0:=jE jL 0
      have f1:=jE jL 1
      have f2:=jE jL 2
      clear jL
      go_wp2_with fail
      refine bodyPost_ret (v:=vV (4,1,(x.s.1.length:Int))) (by simp[results,results95,go_sem,c0,c1,c2,vV]) rfl ?_
      exact⟨by rw[HP.out],by rw[HP.out];exact HE8.out.told HM.out (Nat.le_refl _) (Moved.setCell (p:=⟨w.heap.size,2,none⟩) (Moved.setCell (p:=⟨w.heap.size,1,none⟩) (Moved.setCell (p:=⟨w.heap.size,0,none⟩) (Moved.refl (fun k=>k=w.heap.size) _) (fun _=>rfl) _) (fun _=>rfl) _) (fun _=>rfl) _)⟩
     refine⟨zqd,zqd,zqd,zqd,zqd,zqd,zqd,?_⟩
     refine⟨?_,?_⟩
     ·refine jJ 0 0 ?_
      intro y w2 p hlo hhi hW hD K hK
      obtain rfl:p=0:=by omega
      have dd:=Env.at0 hW
      exact zqr
     refine⟨?_,?_⟩
     ·refine jJ 0 0 ?_
      intro y w2 p hlo hhi hW hD K hK
      simp only[jU,zq4,zq5,IsP] at hD
      generalize hAA:jA y _ _=AA at hK⊢
      simp only[jA,Act.put,zq1,zq2,zq3,zq4,zq5,IsP] at hAA
      subst hAA
      simp only[zq4,zq5,IsP] at hK
      simp only[hD] at hK⊢
      clear hD
      refine jG ?_
      go_simp
      obtain rfl:p=0:=by omega
      refine (Env.buferr hW).mono ?_
      rintro r w3 ⟨rfl,hw3⟩
      exact hK _ _ _ rfl (by rw[hw3];exact jB.refl _) rfl
     refine⟨?_,?_⟩
     ·refine jP 0 rfl ?_
      intro y w2 hW hD K hK
      simp only[jU,zq4,zq5,IsP] at hD
      have h0:=hD.1
      have h1:=hD.2.1
      have h2:=hD.2.2.1
      have h3:=hD.2.2.2.1
      have h4:=hD.2.2.2.2.1
      have h5:=hD.2.2.2.2.2.1
      have h6:=hD.2.2.2.2.2.2.1
      have h7:=hD.2.2.2.2.2.2.2.1
      have h8:=hD.2.2.2.2.2.2.2.2.1
      clear hD
      generalize hAA:jA y _ _=AA at hK⊢
      simp only[jA,Act.put,zq1,zq2,zq3,zq4,zq5,IsP] at hAA
      subst hAA
      simp only[zq4,zq5,IsP] at hK
      simp only[h0,h1,h2,h3,h4,h5,h6,h7,h8] at hK⊢
      clear h0 h1 h2 h3 h4 h5 h6 h7 h8
      refine jG ?_
      go_simp
      refine (Env.call hW fun κ1 hb hz=>kN _ hb).mono ?_
      rintro r w3 ⟨rfl,he⟩
      exact hK _ _ _ rfl trivial he rfl
     trivial
    | true=>
     have HP:Hid (x.put most (onF flags 1) k=((4,1,ga),x)):=by have h:=HPB.out;rw[ho] at h;rw[ho];exact h
     have HO:=zh ho
     clear ho
     go_wp2_with fail
     refine (HE3.out.onE 1).mono ?_
     rw[HO.out]
     rintro r w9 ⟨rfl,hw9⟩
     obtain rfl:w3=w9:=hw9.symm
     have HE8:=HE3
     have hwa:IntKind.u64.wrap ga=ga:=by have h:=HGO.out;simp[IntKind.wrap,IntKind.bits,IntKind.signed];omega
     have jL:=HE8.out.kp HM.out
     have c0:=jK jL 0 _ rfl
     have c1:=jK jL 1 _ rfl
     have c2:=jK jL 2 _ rfl
     have f0:=jE jL 0
     have f1:=jE jL 1
     have f2:=jE jL 2
     clear jL
     go_wp2_with fail
     refine bodyPost_ret (v:=vV (4,1,ga)) (by simp[results,results95,go_sem,c0,c1,c2,vV]) rfl ?_
     exact⟨by rw[HP.out],by rw[HP.out];exact HE8.out.told HM.out (Nat.le_refl _) (Moved.setCell (p:=⟨w.heap.size,2,none⟩) (Moved.setCell (p:=⟨w.heap.size,1,none⟩) (Moved.setCell (p:=⟨w.heap.size,0,none⟩) (Moved.refl (fun k=>k=w.heap.size) _) (fun _=>rfl) _) (fun _=>rfl) _) (fun _=>rfl) _)⟩
  ·have HP:Hid (x.put most (onF flags 1) k=((0,0,0),x.fail (JQ k))):=by show _=_;unfold BS.put;simp only[ne_eq,hf,not_false_eq_true,if_true]
   have HE8:=zh HE1.out
   generalize hex:(x.fail (JQ k)).e=ex at *
   have hne:¬ex=0:=hf
   clear hf hex HE1
   have jL:=HE8.out.kp HM.out
   have c0:=jK jL 0 _ rfl
   have c1:=jK jL 1 _ rfl
   have c2:=jK jL 2 _ rfl
   have f0:=jE jL 0
   have f1:=jE jL 1
   have f2:=jE jL 2
   clear jL
   go_wp2_with fail
   refine bodyPost_ret (v:=vV (0,0,0)) (by simp[results,results95,go_sem,c0,c1,c2,vV]) rfl ?_
   exact⟨by rw[HP.out],by rw[HP.out];exact HE8.out.told HM.out (Nat.le_refl _) (Moved.setCell (p:=⟨w.heap.size,2,none⟩) (Moved.setCell (p:=⟨w.heap.size,1,none⟩) (Moved.setCell (p:=⟨w.heap.size,0,none⟩) (Moved.refl (fun k=>k=w.heap.size) _) (fun _=>rfl) _) (fun _=>rfl) _) (fun _=>rfl) _)⟩
 refine⟨zqd,zqd,zqd,zqd,?_⟩
 refine⟨?_,?_⟩
 ·refine jJ 0 0 ?_
  intro y w2 p hlo hhi hW hD K hK
  simp only[jU,zq4,zq5,IsP] at hD
  generalize hAA:jA y _ _=AA at hK⊢
  simp only[jA,Act.put,zq1,zq2,zq3,zq4,zq5,IsP] at hAA
  subst hAA
  simp only[zq4,zq5,IsP] at hK
  simp only[hD] at hK⊢
  clear hD
  refine jG ?_
  go_simp
  refine (fJ k w2).mono ?_
  rintro r w3 ⟨rfl,hw3⟩
  exact hK _ _ _ rfl (by rw[← hw3];exact jB.refl _) rfl
 refine⟨?_,?_⟩
 ·refine jP 0 rfl ?_
  intro y w2 hW hD K hK
  simp only[jU,zq4,zq5,IsP] at hD
  have h0:=hD.1
  have h1:=hD.2.1
  have h2:=hD.2.2.1
  have h3:=hD.2.2.2.1
  have h4:=hD.2.2.2.2.1
  clear hD
  generalize hAA:jA y _ _=AA at hK⊢
  simp only[jA,Act.put,zq1,zq2,zq3,zq4,zq5,IsP] at hAA
  subst hAA
  simp only[zq4,zq5,IsP] at hK
  simp only[h0,h1,h2,h3,h4] at hK⊢
  clear h0 h1 h2 h3 h4
  refine jG ?_
  go_simp
  refine (Env.call hW fun κ1 hb hz=>kN _ hb).mono ?_
  rintro r w3 ⟨rfl,he⟩
  exact hK _ _ _ rfl trivial he rfl
 trivial
theorem BS.put_ok {most:Int} {x:BS} {sh:Bool} {k:ByteArray} (h:x.Ok most):okV (x.put most sh k).1:=by
 have hl:=h.len
 have hm:=h.m1
 have hk:=QO (k:=k) h.okK
 unfold BS.put
 dsimp only
 split
 ·exact ok0
 ·split
  ·show (0:Int)≤_∧_≤(18446744073709551615:Int);dsimp only;omega
  ·show (0:Int)≤_∧_≤(18446744073709551615:Int);dsimp only;omega
theorem nA {B:Nat} {q:kE} {most flags:Int} {κ:Nat→Nat} {x:BS} {w:World} (n1 n2:Nat) (k:ByteArray) (hk:k.size≤1048576) (hg:x.Good) (hx:x.e=0) (he:Env B q most flags w κ [(n2,Obj.cells #[.string k] 9 (0,0)),(n1,Obj.cells #[jF q.p] 23 (0,0))] x w):Calls prog 94 #[.pointer (some ⟨n1,0,none⟩),.pointer (some ⟨n2,0,none⟩)] w fun r w'=>r=.returned (.tuple #[])∧j1 B q most flags κ (x.key most (onF flags 1) k) w w':=by
 have HE:=zh he
 clear he
 have HM2:Hid ((n2,Obj.cells #[.string k] 9 (0,0))∈([(n2,Obj.cells #[.string k] 9 (0,0)),(n1,Obj.cells #[jF q.p] 23 (0,0))]:List (Nat × Obj))):=List.mem_cons_self
 have HM1:Hid ((n1,Obj.cells #[jF q.p] 23 (0,0))∈([(n2,Obj.cells #[.string k] 9 (0,0)),(n1,Obj.cells #[jF q.p] 23 (0,0))]:List (Nat × Obj))):=List.mem_cons_of_mem _ (List.mem_cons_self)
 have HPC:Hid (∀κ1 w2,Bd B q most flags κ1 x w2→Calls prog 95 #[jF q.p,.string k] w2 fun r w'=>r=.returned (vV (x.put most (onF flags 1) k).1)∧j1 B q most flags κ1 (x.put most (onF flags 1) k).2 w2 w'):=fun κ1 w2 hb=>eA k hk hg hb
 have HVO:Hid (okV (x.put most (onF flags 1) k).1):=BS.put_ok HE.out.ok
 have HY:Hid (x.key most (onF flags 1) k=(x.put most (onF flags 1) k).2.push (x.put most (onF flags 1) k).1):=by show _=_;unfold BS.key;rw[if_pos hx]
 clear hk hg hx
 generalize (x.put most (onF flags 1) k)=P at *
 obtain⟨⟨ty,wd,n⟩,y⟩:=P
 go_enter func94,ntmps94
 go_wp2_with fail
 refine jO [5,6] (zX B q most flags w κ [(n2,Obj.cells #[.string k] 9 (0,0)),(n1,Obj.cells #[jF q.p] 23 (0,0))] [x,y] (y.push (ty,wd,n))) (fun _ w w'=>jB w w') ((fun p (_:Nat→Value)=>(fun _ _ _=>True) p)) [[],[0],[0,1],[],[],[3,4],[0,1,2,3,4,5]] [[(5,3),(6,4),(7,5)],[(2,0),(5,3),(6,4),(7,5)],[(2,0),(3,1),(5,3),(6,4),(7,5)],[(2,0),(3,1),(4,2),(6,4)],[(2,0),(3,1),(4,2),(5,3)],[(2,0),(3,1),(4,2),(5,3),(6,4)],[(2,0),(3,1),(4,2),(5,3),(6,4),(7,5)]] [(2,0),(3,1),(4,2),(5,3),(6,4),(7,5),(8,6)]
  [IsP (jF q.p),IsP (jF q.p),IsP (jF q.p),IsP (jF q.p),IsP (.string k),IsP (.agg #[.int .i64 ty,.int .i64 wd,.int .u64 n]),IsP (.tuple #[])]
  zk (zX.grew) (HE.out.grew (jB.refl _).drew) zk zk ⟨jC,jC,jC,jC,jC,jC,jC,trivial⟩ rfl ?_ ?_
 ·intro y w2 hW hF
  simp only[kT,IsP,Nat.reduceAdd,List.length_cons,List.length_nil] at hF hW
  have h0:=hF.1
  have h1:=hF.2.1
  have h2:=hF.2.2.1
  have h3:=hF.2.2.2.1
  have h4:=hF.2.2.2.2.1
  have h5:=hF.2.2.2.2.2.1
  have h6:=hF.2.2.2.2.2.2.1
  clear hF
  simp only[jA,Act.put,zq1,zq2,zq3,zq4,zq5]
  simp only[h0,h1,h2,h3,h4,h5,h6]
  clear h0 h1 h2 h3 h4 h5 h6
  go_wp2
  go_end0
  exact⟨rfl,by rw[HY.out];exact Env.turn hW⟩
 refine⟨?_,?_⟩
 ·refine jJ 0 1 ?_
  intro y w2 p hlo hhi hW hD K hK
  have d10:=Env.cell hW HM1.out 0 _ rfl
  exact zqr
 refine⟨zqd,zqd,?_⟩
 refine⟨?_,?_⟩
 ·refine jJ 0 0 ?_
  intro y w2 p hlo hhi hW hD K hK
  have d10:=Env.cell hW HM1.out 0 _ rfl
  exact zqr
 refine⟨?_,?_⟩
 ·refine jJ 0 0 ?_
  intro y w2 p hlo hhi hW hD K hK
  have d20:=Env.cell hW HM2.out 0 _ rfl
  exact zqr
 refine⟨?_,?_⟩
 ·refine jP 0 rfl ?_
  intro y w2 hW hD K hK
  simp only[jU,zq4,zq5,IsP] at hD
  have h3:=hD.1
  have h4:=hD.2.1
  clear hD
  generalize hAA:jA y _ _=AA at hK⊢
  simp only[jA,Act.put,zq1,zq2,zq3,zq4,zq5,IsP] at hAA
  subst hAA
  simp only[zq4,zq5,IsP] at hK
  simp only[h3,h4] at hK⊢
  clear h3 h4
  refine jG ?_
  go_simp
  refine (Env.call hW fun κ1 hb hz=>HPC.out κ1 w2 hb).mono ?_
  rintro r w3 ⟨rfl,he⟩
  exact hK _ _ _ rfl trivial he rfl
 refine⟨?_,?_⟩
 ·refine jP 1 rfl ?_
  intro y w2 hW hD K hK
  simp only[jU,zq4,zq5,IsP] at hD
  have h0:=hD.1
  have h1:=hD.2.1
  have h2:=hD.2.2.1
  have h3:=hD.2.2.2.1
  have h4:=hD.2.2.2.2.1
  have h5:=hD.2.2.2.2.2.1
  clear hD
  generalize hAA:jA y _ _=AA at hK⊢
  simp only[jA,Act.put,zq1,zq2,zq3,zq4,zq5,IsP] at hAA
  subst hAA
  simp only[zq4,zq5,IsP] at hK
  simp only[h0,h1,h2,h3,h4,h5] at hK⊢
  clear h0 h1 h2 h3 h4 h5
  refine jG ?_
  go_simp
  refine (Env.call hW fun κ1 hb hz=>qD (ty,wd,n) HVO.out hb).mono ?_
  rintro r w3 ⟨rfl,he⟩
  exact hK _ _ _ rfl trivial he rfl
 trivial
theorem nB {B:Nat} {q:kE} {most flags:Int} {κ:Nat→Nat} {x:BS} {w:World} (k:ByteArray) (hk:k.size≤1048576) (hg:x.Good) (h:Bd B q most flags κ x w):Calls prog 39 #[jF q.p,.string k] w fun r w'=>r=.returned (.tuple #[])∧j1 B q most flags κ (x.key most (onF flags 1) k) w w':=by
 have HH:=zh (And.intro hk hg)
 have HE:Hid (Env B q most flags w κ [(w.heap.size+1,Obj.cells #[.string k] 9 (0,0)),(w.heap.size,Obj.cells #[jF q.p] 23 (0,0))] x ((w.alloc (.cells #[jF q.p] 23)).alloc (.cells #[.string k] 9))):=by
  have hh:=((Env.start h).add (.cells #[jF q.p] 23)).add (.cells #[.string k] 9)
  simp only[World.size_alloc,Nat.add_assoc,Nat.reduceAdd] at hh
  exact hh
 clear h hk hg
 go_enter func39,ntmps39
 go_wp2_with fail
 refine (HE.out.call' fun κ1 hb he=>k8 hb _ _ (x.key most (onF flags 1) k) (fun hx=>by unfold BS.key;rw[if_neg hx]) (fun _=>enters_of func94 zk rfl _ _) (fun hx=>nA _ _ k HH.out.1 HH.out.2 hx he)).mono ?_
 rintro r w5 ⟨rfl,he⟩
 have HT:=zh he
 clear he
 go_wp2
 go_end0
 exact⟨rfl,HT.out.turn⟩
theorem YX {B:Nat} {q:kE} {most flags:Int} {κ:Nat→Nat} {x:BS} {w:World} (t:Int) (k z:ByteArray) (hk:k.size≤1048576) (hz:z.size≤1000) (ht:x.texts.length≤1048576) (h:Bd B q most flags κ x w):Calls prog 59 #[jF q.p,.int .i64 t,.string k,.string z] w fun r w'=>r=.returned (.tuple #[])∧j1 B q most flags κ (x.text most t k z) w w':=by
 have HE:=zh (Env.start h)
 have HWO:Hid (∀w,Calls prog 58 #[.int .u64 (k.size:Int)] w fun r w'=>r=.returned (.int .i64 (Ft.widthOf k.size))∧w=w'):=fun w=>by have h:=Ft.widthOf_any (k.size:Int) w (by omega) (by omega);rw[Int.toNat_natCast] at h;exact h
 have HIW:Hid (isW (Ft.widthOf k.size)=true):=yV k.size
 obtain⟨wd,hwd⟩:∃u,Ft.widthOf k.size=u:=⟨_,rfl⟩
 rw[hwd] at HWO HIW
 have HLN:Hid ((jW most wd k.size (jH most wd x.s)).1.length≤1048576):=by have h1:=zW (x:=wd) (u:=(k.size:Int)) (kJ (x:=wd) h.ok.len);have h2:=h.ok.m1;show _≤_;omega
 have HVT:Hid (okV (t,wd,((jW most wd k.size (jH most wd x.s)).1.length:Int))):=by have h:=HLN.out;show (0:Int)≤((jW most wd k.size (jH most wd x.s)).1.length:Int)∧((jW most wd k.size (jH most wd x.s)).1.length:Int)≤18446744073709551615;omega
 have hwa:=J0 _ HLN.out
 have hwk:=J0 _ hk
 have HSS:Hid (zB [k,z]≤1073741824):=by show _≤_;simp[zB];omega
 have HTL:=zh ht
 have HY:Hid (x.text most t k z=(({x with s:=j7 most (jS [k,z]) (jW most wd k.size (jH most wd x.s)),texts:=if t=5 then zE k ((jW most wd k.size (jH most wd x.s)).1.length:Int) x.texts else x.texts}:BS).push (t,wd,((jW most wd k.size (jH most wd x.s)).1.length:Int)))):=by show _=_;unfold BS.text;rw[hwd]
 clear h hwd ht hz
 have c0:=HE.out.at0
 go_enter func59,ntmps59
 go_wp2_with fail
 refine (HWO.out w).mono ?_
 rintro r w1 ⟨rfl,hw1⟩
 obtain rfl:w=w1:=hw1
 go_wp2_with fail
 refine (HE.out.call fun κ1 hb hz=>hb.buf_calls (kJ hb.ok.len) (fun o ho _=>qU x.s wd ho (Nat.zero_le _) hb.ok.len hb.ok.m1)).mono ?_
 rintro r w2 ⟨rfl,he⟩
 have HE1:=zh he
 clear he c0
 have c0:=HE1.out.at0
 go_wp2_with fail
 refine (HE1.out.call fun κ1 hb hz=>hb.buf_calls (x:={x with s:=jH most wd x.s}) (zW hb.ok.len) (fun o ho _=>yI (jH most wd x.s) wd (k.size:Int) ho (Nat.zero_le _) hb.ok.len hb.ok.m1 (by omega) (by omega))).mono ?_
 rintro r w3 ⟨rfl,he⟩
 have HE2:=zh he
 clear he c0
 have c0:=HE2.out.at0
 go_wp2_with fail
 refine HE2.out.buflen.mono ?_
 rintro r w9 ⟨rfl,hw9⟩
 obtain rfl:w3=w9:=hw9.symm
 go_wp2_with fail
 refine (HE2.out.text2 k z HSS.out).mono ?_
 rintro r w4 ⟨rfl,he⟩
 have HE3:=zh he
 clear he c0
 have c5:=HE3.out.at5
 by_cases h5:t=5
 ·have HY5:Hid (x.text most t k z=({x with s:=j7 most (jS [k,z]) (jW most wd k.size (jH most wd x.s)),texts:=zE k ((jW most wd k.size (jH most wd x.s)).1.length:Int) x.texts}:BS).push (t,wd,((jW most wd k.size (jH most wd x.s)).1.length:Int))):=by show _=_;rw[HY.out,if_pos h5]
  subst h5
  go_wp2_with fail
  refine (HE3.out.textsPut k ((jW most wd k.size (jH most wd x.s)).1.length:Int) (show ({x with s:=j7 most (jS [k,z]) (jW most wd k.size (jH most wd x.s))}:BS).texts.length≤1048576 from HTL.out)).mono ?_
  rintro r w5 ⟨rfl,he⟩
  have HE4:=zh he
  clear he c5
  go_wp2_with fail
  refine (HE4.out.call fun κ1 hb hz=>qD (5,wd,((jW most wd k.size (jH most wd x.s)).1.length:Int)) HVT.out hb).mono ?_
  rintro r w6 ⟨rfl,he⟩
  have HE5:=zh he
  clear he
  go_wp2
  go_end0
  exact⟨rfl,by rw[HY5.out];exact HE5.out.turn⟩
 ·have HY5:Hid (x.text most t k z=({x with s:=j7 most (jS [k,z]) (jW most wd k.size (jH most wd x.s))}:BS).push (t,wd,((jW most wd k.size (jH most wd x.s)).1.length:Int))):=by show _=_;rw[HY.out,if_neg h5]
  go_wp2_with fail
  refine (HE3.out.call fun κ1 hb hz=>qD (t,wd,((jW most wd k.size (jH most wd x.s)).1.length:Int)) HVT.out hb).mono ?_
  rintro r w6 ⟨rfl,he⟩
  have HE5:=zh he
  clear he
  go_wp2
  go_end0
  exact⟨rfl,by rw[HY5.out];exact HE5.out.turn⟩
theorem lF {B:Nat} {q:kE} {most flags:Int} {κ:Nat→Nat} {x:BS} {w:World} (n1 n2:Nat) (k:ByteArray) (hk:k.size≤1048576) (hg:x.Good) (hx:x.e=0) (he:Env B q most flags w κ [(n2,Obj.cells #[.string k] 9 (0,0)),(n1,Obj.cells #[jF q.p] 23 (0,0))] x w):Calls prog 90 #[.pointer (some ⟨n1,0,none⟩),.pointer (some ⟨n2,0,none⟩)] w fun r w'=>r=.returned (.tuple #[])∧j1 B q most flags κ (x.blob most k) w w':=by
 have HY:Hid (x.blob most k=x.text most 25 k ByteArray.empty):=by show _=_;unfold BS.blob;rw[if_pos hx]
 have HTL:Hid (x.texts.length≤1048576):=Nat.le_trans (hg.ts hx) he.len
 have HE:=zh he
 have HM2:Hid ((n2,Obj.cells #[.string k] 9 (0,0))∈([(n2,Obj.cells #[.string k] 9 (0,0)),(n1,Obj.cells #[jF q.p] 23 (0,0))]:List (Nat × Obj))):=List.mem_cons_self
 have HM1:Hid ((n1,Obj.cells #[jF q.p] 23 (0,0))∈([(n2,Obj.cells #[.string k] 9 (0,0)),(n1,Obj.cells #[jF q.p] 23 (0,0))]:List (Nat × Obj))):=List.mem_cons_of_mem _ (List.mem_cons_self)
 have cb:=Env.cell he HM1.out 0 _ rfl
 have ck:=Env.cell he HM2.out 0 _ rfl
 clear he hx hg
 go_enter func90,ntmps90
 go_wp2_with fail
 refine (HE.out.call fun κ1 hb hz=>YX 25 k ByteArray.empty hk (by decide) HTL.out hb).mono ?_
 rintro r w6 ⟨rfl,he⟩
 have HE5:=zh he
 clear he
 go_wp2
 go_end0
 exact⟨rfl,by rw[HY.out];exact HE5.out.turn⟩
theorem bA {B:Nat} {q:kE} {most flags:Int} {κ:Nat→Nat} {x:BS} {w:World} (k:ByteArray) (hk:k.size≤1048576) (hg:x.Good) (h:Bd B q most flags κ x w):Calls prog 29 #[jF q.p,.string k] w fun r w'=>r=.returned (.tuple #[])∧j1 B q most flags κ (x.blob most k) w w':=by
 have HH:=zh (And.intro hk hg)
 have HE:Hid (Env B q most flags w κ [(w.heap.size+1,Obj.cells #[.string k] 9 (0,0)),(w.heap.size,Obj.cells #[jF q.p] 23 (0,0))] x ((w.alloc (.cells #[jF q.p] 23)).alloc (.cells #[.string k] 9))):=by
  have hh:=((Env.start h).add (.cells #[jF q.p] 23)).add (.cells #[.string k] 9)
  simp only[World.size_alloc,Nat.add_assoc,Nat.reduceAdd] at hh
  exact hh
 clear h hk hg
 go_enter func29,ntmps29
 go_wp2_with fail
 refine (HE.out.call' fun κ1 hb he=>k8 hb _ _ (x.blob most k) (fun hx=>by unfold BS.blob;rw[if_neg hx]) (fun _=>enters_of func90 zk rfl _ _) (fun hx=>lF _ _ k HH.out.1 HH.out.2 hx he)).mono ?_
 rintro r w5 ⟨rfl,he⟩
 have HT:=zh he
 clear he
 go_wp2
 go_end0
 exact⟨rfl,HT.out.turn⟩
theorem nC {B:Nat} {q:kE} {most flags:Int} {κ:Nat→Nat} {x:BS} {w:World} (n1 n2:Nat) (k:ByteArray) (hk:k.size≤1048576) (hg:x.Good) (hx:x.e=0) (he:Env B q most flags w κ [(n2,Obj.cells #[.string k] 9 (0,0)),(n1,Obj.cells #[jF q.p] 23 (0,0))] x w):Calls prog 54 #[.pointer (some ⟨n1,0,none⟩),.pointer (some ⟨n2,0,none⟩)] w fun r w'=>r=.returned (.tuple #[])∧j1 B q most flags κ (x.str most (onF flags 2) k) w w':=by
 have HE:=zh he
 have HTL:Hid (x.texts.length≤1048576):=Nat.le_trans (hg.ts hx) he.len
 have HGO:=zh (QO (k:=k) he.ok.okT)
 have HM2:Hid ((n2,Obj.cells #[.string k] 9 (0,0))∈([(n2,Obj.cells #[.string k] 9 (0,0)),(n1,Obj.cells #[jF q.p] 23 (0,0))]:List (Nat × Obj))):=List.mem_cons_self
 have HM1:Hid ((n1,Obj.cells #[jF q.p] 23 (0,0))∈([(n2,Obj.cells #[.string k] 9 (0,0)),(n1,Obj.cells #[jF q.p] 23 (0,0))]:List (Nat × Obj))):=List.mem_cons_of_mem _ (List.mem_cons_self)
 have HPB:Hid (x.str most (onF flags 2) k=if (yF x.texts k).2 && onF flags 2 then x.push (5,Ft.widthOf k.size,(yF x.texts k).1) else x.text most 5 k ⟨#[0]⟩):=by show _=_;unfold BS.str;rw[if_pos hx]
 have HGE:Hid (∀w2,Env B q most flags w κ [(n2,Obj.cells #[.string k] 9 (0,0)),(n1,Obj.cells #[jF q.p] 23 (0,0))] x w2→Calls prog 55 #[jF q.t,.string k] w2 fun r w'=>r=.returned (.tuple #[.int .i64 (yF x.texts k).1,.bool (yF x.texts k).2])∧jB w2 w'):=fun w2 h=>h.textsGet k
 generalize yF x.texts k=g at HPB HGE HGO
 obtain⟨ga,gb⟩:=g
 clear he hx hg
 have hwk:=J0 _ hk
 have HWO:Hid (∀w,Calls prog 58 #[.int .u64 (k.size:Int)] w fun r w'=>r=.returned (.int .i64 (Ft.widthOf k.size))∧w=w'):=fun w=>by have h:=Ft.widthOf_any (k.size:Int) w (by omega) (by omega);rw[Int.toNat_natCast] at h;exact h
 have hwa:IntKind.u64.wrap ga=ga:=by have h:=HGO.out;simp[IntKind.wrap,IntKind.bits,IntKind.signed];omega
 have HVT:Hid (okV (5,Ft.widthOf k.size,ga)):=by have h:=HGO.out;show (0:Int)≤ga∧ga≤18446744073709551615;omega
 go_enter func54,ntmps54
 go_wp2_with fail
 refine jO [] (zX B q most flags w κ [(n2,Obj.cells #[.string k] 9 (0,0)),(n1,Obj.cells #[jF q.p] 23 (0,0))] [x] (x)) (fun _ w w'=>jB w w') ((fun p (_:Nat→Value)=>(fun _ _ _=>True) p)) [[],[0],[0,1],[0,1,2],[0,1,2,3],[],[0,1,2,3,4,5],[0,1,2,3,4,5,6],[0,1,2,3,4,5,6,7],[0,1,2,3,4,5,6,7],[0,1,2,3,4,5,6,7,8],[0,1,2,3,4,5,6,7,8,9,10]] [[(10,5)],[(5,0),(10,5)],[(5,0),(6,1),(10,5)],[(5,0),(6,1),(7,2),(10,5)],[(5,0),(6,1),(7,2),(8,3),(10,5)],[(5,0),(6,1),(7,2),(8,3),(9,4)],[(5,0),(6,1),(7,2),(8,3),(9,4),(10,5)],[(5,0),(6,1),(7,2),(8,3),(9,4),(10,5),(11,6)],[(5,0),(6,1),(7,2),(8,3),(9,4),(10,5),(11,6),(4,7),(13,9)],[(5,0),(6,1),(7,2),(8,3),(9,4),(10,5),(11,6),(4,7),(12,8),(2,10)],[(5,0),(6,1),(7,2),(8,3),(9,4),(10,5),(11,6),(4,7),(12,8),(13,9)],[(5,0),(6,1),(7,2),(8,3),(9,4),(10,5),(11,6),(4,7),(12,8),(13,9),(2,10)]] [(5,0),(6,1),(7,2),(8,3),(9,4),(10,5),(11,6),(4,7),(12,8),(13,9),(2,10),(3,11)]
  [IsP (jF q.p),IsP (jF q.p),IsP (.pointer (some ⟨q.p,3,none⟩)),IsP (.pointer (some ⟨q.p,5,none⟩)),IsP (jF q.t),IsP (.string k),IsP (.tuple #[.int .i64 ga,.bool gb]),IsP (.tuple #[.int .i64 ga,.bool gb]),IsP (.int .i64 ga),IsP (.bool gb),IsP (.int .i64 ga),IsP (.bool gb)]
  zk (zX.grew) (HE.out.grew (jB.refl _).drew) zk zk ⟨jC,jC,jC,jC,jC,jC,jC,jC,jC,jC,jC,jC,trivial⟩ rfl ?_ ?_
 ·intro y w2 hW hF
  simp only[kT,IsP,Nat.reduceAdd,List.length_cons,List.length_nil] at hF hW
  have h0:=hF.1
  have h1:=hF.2.1
  have h2:=hF.2.2.1
  have h3:=hF.2.2.2.1
  have h4:=hF.2.2.2.2.1
  have h5:=hF.2.2.2.2.2.1
  have h6:=hF.2.2.2.2.2.2.1
  have h7:=hF.2.2.2.2.2.2.2.1
  have h8:=hF.2.2.2.2.2.2.2.2.1
  have h9:=hF.2.2.2.2.2.2.2.2.2.1
  have h10:=hF.2.2.2.2.2.2.2.2.2.2.1
  have h11:=hF.2.2.2.2.2.2.2.2.2.2.2.1
  clear hF
  simp only[jA,Act.put,zq1,zq2,zq3,zq4,zq5]
  simp only[h0,h1,h2,h3,h4,h5,h6,h7,h8,h9,h10,h11]
  clear h0 h1 h2 h3 h4 h5 h6 h7 h8 h9 h10 h11
  have HE1:Hid (Env B q most flags w κ [(n2,Obj.cells #[.string k] 9 (0,0)),(n1,Obj.cells #[jF q.p] 23 (0,0))] x w2):=hW
  cases gb with
  | false=>
   have HP:Hid (x.str most (onF flags 2) k=x.text most 5 k ⟨#[0]⟩):=(by have h:=HPB.out;show _=_;simpa using h)
   have cb:=Env.cell HE1.out HM1.out 0 _ rfl
   have ck:=Env.cell HE1.out HM2.out 0 _ rfl
   go_wp2_with fail
   refine (HE1.out.call fun κ1 hb hz=>YX 5 k ⟨#[0]⟩ hk (by decide) HTL.out hb).mono ?_
   rintro r w6 ⟨rfl,he⟩
   have HE5:=zh he
   clear he
   go_wp2
   go_end0
   exact⟨rfl,by rw[HP.out];exact HE5.out.turn⟩
  | true=>
   cases ho:onF flags 2 with
   | false=>
    have HO:=zh ho
    have HPZ:=zh (show (x.str most (onF flags 2) k=x.text most 5 k ⟨#[0]⟩) by have h:=HPB.out;show _=_;rw[ho] at h;rw[ho];simpa using h)
    clear ho
    have cb:=Env.cell HE1.out HM1.out 0 _ rfl
    go_wp2_with fail
    refine (HE1.out.onE 2).mono ?_
    rw[HO.out]
    rintro r w9 ⟨rfl,hw9⟩
    obtain rfl:w2=w9:=hw9.symm
    clear cb
    have HP:Hid (x.str most (onF flags 2) k=x.text most 5 k ⟨#[0]⟩):=HPZ.out
    have cb:=Env.cell HE1.out HM1.out 0 _ rfl
    have ck:=Env.cell HE1.out HM2.out 0 _ rfl
    go_wp2_with fail
    refine (HE1.out.call fun κ1 hb hz=>YX 5 k ⟨#[0]⟩ hk (by decide) HTL.out hb).mono ?_
    rintro r w6 ⟨rfl,he⟩
    have HE5:=zh he
    clear he
    go_wp2
    go_end0
    exact⟨rfl,by rw[HP.out];exact HE5.out.turn⟩
   | true=>
    have HO:=zh ho
    have HP:Hid (x.str most (onF flags 2) k=x.push (5,Ft.widthOf k.size,ga)):=by have h:=HPB.out;show _=_;rw[ho] at h;rw[ho];simpa using h
    clear ho
    have cb:=Env.cell HE1.out HM1.out 0 _ rfl
    go_wp2_with fail
    refine (HE1.out.onE 2).mono ?_
    rw[HO.out]
    rintro r w9 ⟨rfl,hw9⟩
    obtain rfl:w2=w9:=hw9.symm
    clear cb
    go_wp2_with fail
    refine jO [10] (zX B q most flags w κ [(n2,Obj.cells #[.string k] 9 (0,0)),(n1,Obj.cells #[jF q.p] 23 (0,0))] [x] (x.push (5,Ft.widthOf k.size,ga))) (fun _ w w'=>jB w w') ((fun p (_:Nat→Value)=>(fun _ _ _=>True) p)) [[],[0],[0,1],[],[3],[3,4],[3,4,5],[],[7],[3,4,5,6,7,8],[0,1,2,3,4,5,6,7,8,9]] [[(24,3),(25,4),(26,5),(27,6),(28,7),(29,8),(30,9)],[(21,0),(24,3),(25,4),(26,5),(27,6),(28,7),(29,8),(30,9)],[(21,0),(22,1),(24,3),(25,4),(26,5),(27,6),(28,7),(29,8),(30,9)],[(21,0),(22,1),(23,2),(28,7),(29,8)],[(21,0),(22,1),(23,2),(24,3),(28,7),(29,8)],[(21,0),(22,1),(23,2),(24,3),(25,4),(28,7),(29,8)],[(21,0),(22,1),(23,2),(24,3),(25,4),(26,5),(28,7),(29,8)],[(21,0),(22,1),(23,2),(24,3),(25,4),(26,5),(27,6)],[(21,0),(22,1),(23,2),(24,3),(25,4),(26,5),(27,6),(28,7)],[(21,0),(22,1),(23,2),(24,3),(25,4),(26,5),(27,6),(28,7),(29,8)],[(21,0),(22,1),(23,2),(24,3),(25,4),(26,5),(27,6),(28,7),(29,8),(30,9)]] [(21,0),(22,1),(23,2),(24,3),(25,4),(26,5),(27,6),(28,7),(29,8),(30,9),(31,10)]
     [IsP (jF q.p),IsP (jF q.p),IsP (jF q.p),IsP (.string k),IsP (.int .i64 k.size),IsP (.int .u64 k.size),IsP (.int .i64 (Ft.widthOf k.size)),IsP (.int .i64 ga),IsP (.int .u64 ga),IsP (.agg #[.int .i64 5,.int .i64 (Ft.widthOf k.size),.int .u64 ga]),IsP (.tuple #[])]
     zk (zX.grew) (HE1.out.grew (jB.refl _).drew) zk zk ⟨jC,jC,jC,jC,jC,jC,jC,jC,jC,jC,jC,trivial⟩ rfl ?_ ?_
    ·intro y w2 hW hF
     simp only[kT,IsP,Nat.reduceAdd,List.length_cons,List.length_nil] at hF hW
     have h0:=hF.1
     have h1:=hF.2.1
     have h2:=hF.2.2.1
     have h3:=hF.2.2.2.1
     have h4:=hF.2.2.2.2.1
     have h5:=hF.2.2.2.2.2.1
     have h6:=hF.2.2.2.2.2.2.1
     have h7:=hF.2.2.2.2.2.2.2.1
     have h8:=hF.2.2.2.2.2.2.2.2.1
     have h9:=hF.2.2.2.2.2.2.2.2.2.1
     have h10:=hF.2.2.2.2.2.2.2.2.2.2.1
     clear hF
     simp only[jA,Act.put,zq1,zq2,zq3,zq4,zq5]
     simp only[h0,h1,h2,h3,h4,h5,h6,h7,h8,h9,h10]
     clear h0 h1 h2 h3 h4 h5 h6 h7 h8 h9 h10
     go_wp2
     refine bodyPost_ret (results_none rfl _ _ _) rfl ?_
     exact⟨rfl,by rw[HP.out];exact Env.turn hW⟩
    refine⟨?_,?_⟩
    ·refine jJ 0 0 ?_
     intro y w2 p hlo hhi hW hD K hK
     have d10:=Env.cell hW HM1.out 0 _ rfl
     exact zqr
    refine⟨zqd,zqd,?_⟩
    refine⟨?_,?_⟩
    ·refine jJ 0 0 ?_
     intro y w2 p hlo hhi hW hD K hK
     have d20:=Env.cell hW HM2.out 0 _ rfl
     exact zqr
    refine⟨zqd,zqd,?_⟩
    refine⟨?_,?_⟩
    ·refine jJ 0 0 ?_
     intro y w2 p hlo hhi hW hD K hK
     simp only[jU,zq4,zq5,IsP] at hD
     generalize hAA:jA y _ _=AA at hK⊢
     simp only[jA,Act.put,zq1,zq2,zq3,zq4,zq5,IsP] at hAA
     subst hAA
     simp only[zq4,zq5,IsP] at hK
     simp only[hD] at hK⊢
     clear hD
     refine jG ?_
     go_simp
     refine (HWO.out w2).mono ?_
     rintro r w3 ⟨rfl,hw3⟩
     exact hK _ _ _ rfl (by rw[← hw3];exact jB.refl _) rfl
    refine⟨zqd,zqd,zqd,?_⟩
    refine⟨?_,?_⟩
    ·refine jP 0 rfl ?_
     intro y w2 hW hD K hK
     simp only[jU,zq4,zq5,IsP] at hD
     have h0:=hD.1
     have h1:=hD.2.1
     have h2:=hD.2.2.1
     have h3:=hD.2.2.2.1
     have h4:=hD.2.2.2.2.1
     have h5:=hD.2.2.2.2.2.1
     have h6:=hD.2.2.2.2.2.2.1
     have h7:=hD.2.2.2.2.2.2.2.1
     have h8:=hD.2.2.2.2.2.2.2.2.1
     have h9:=hD.2.2.2.2.2.2.2.2.2.1
     clear hD
     generalize hAA:jA y _ _=AA at hK⊢
     simp only[jA,Act.put,zq1,zq2,zq3,zq4,zq5,IsP] at hAA
     subst hAA
     simp only[zq4,zq5,IsP] at hK
     simp only[h0,h1,h2,h3,h4,h5,h6,h7,h8,h9] at hK⊢
     clear h0 h1 h2 h3 h4 h5 h6 h7 h8 h9
     refine jG ?_
     go_simp
     refine (Env.call hW fun κ1 hb hz=>qD (5,Ft.widthOf k.size,ga) HVT.out hb).mono ?_
     rintro r w3 ⟨rfl,he⟩
     exact hK _ _ _ rfl trivial he rfl
    trivial
 refine⟨?_,?_⟩
 ·refine jJ 0 0 ?_
  intro y w2 p hlo hhi hW hD K hK
  have d10:=Env.cell hW HM1.out 0 _ rfl
  exact zqr
 refine⟨zqd,zqd,zqd,?_⟩
 refine⟨?_,?_⟩
 ·refine jJ 0 0 ?_
  intro y w2 p hlo hhi hW hD K hK
  have dd:=Env.at5 hW
  exact zqr
 refine⟨?_,?_⟩
 ·refine jJ 0 0 ?_
  intro y w2 p hlo hhi hW hD K hK
  have d20:=Env.cell hW HM2.out 0 _ rfl
  exact zqr
 refine⟨?_,?_⟩
 ·refine jJ 0 0 ?_
  intro y w2 p hlo hhi hW hD K hK
  simp only[jU,zq4,zq5,IsP] at hD
  generalize hAA:jA y _ _=AA at hK⊢
  simp only[jA,Act.put,zq1,zq2,zq3,zq4,zq5,IsP] at hAA
  subst hAA
  simp only[zq4,zq5,IsP] at hK
  simp only[hD] at hK⊢
  clear hD
  refine jG ?_
  go_simp
  obtain rfl:p=0:=by omega
  refine (HGE.out w2 hW).mono ?_
  rintro r w3 ⟨rfl,hg3⟩
  exact hK _ _ _ rfl hg3 rfl
 refine⟨zqd,zqd,zqd,zqd,zqd,?_⟩
 trivial
theorem eB {B:Nat} {q:kE} {most flags:Int} {κ:Nat→Nat} {x:BS} {w:World} (k:ByteArray) (hk:k.size≤1048576) (hg:x.Good) (h:Bd B q most flags κ x w):Calls prog 15 #[jF q.p,.string k] w fun r w'=>r=.returned (.tuple #[])∧j1 B q most flags κ (x.str most (onF flags 2) k) w w':=by
 have HH:=zh (And.intro hk hg)
 have HE:Hid (Env B q most flags w κ [(w.heap.size+1,Obj.cells #[.string k] 9 (0,0)),(w.heap.size,Obj.cells #[jF q.p] 23 (0,0))] x ((w.alloc (.cells #[jF q.p] 23)).alloc (.cells #[.string k] 9))):=by
  have hh:=((Env.start h).add (.cells #[jF q.p] 23)).add (.cells #[.string k] 9)
  simp only[World.size_alloc,Nat.add_assoc,Nat.reduceAdd] at hh
  exact hh
 clear h hk hg
 go_enter func15,ntmps15
 go_wp2_with fail
 refine (HE.out.call' fun κ1 hb he=>k8 hb _ _ (x.str most (onF flags 2) k) (fun hx=>by unfold BS.str;rw[if_neg hx]) (fun _=>enters_of func54 zk rfl _ _) (fun hx=>nC _ _ k HH.out.1 HH.out.2 hx he)).mono ?_
 rintro r w5 ⟨rfl,he⟩
 have HT:=zh he
 clear he
 go_wp2
 go_end0
 exact⟨rfl,HT.out.turn⟩
end Go.Proofs.YtjnpcddbgfmpcaaGreat
