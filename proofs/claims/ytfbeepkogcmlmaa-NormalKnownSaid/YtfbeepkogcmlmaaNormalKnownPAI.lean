/-
  Texts of the proof.
-/
import Derived.Test.YtfbeepkogcmlmaaNormalKnownPAH
import Derived.Test.YtfbeepkogcmlmaaNormalKnownPAA
import Derived.Maps.OwnOps
import Derived.Maps.Views
import Derived.Lib.IndexAny
set_option linter.unusedVariables false
set_option linter.unusedSimpArgs false
set_option maxHeartbeats 8000000
set_option maxRecDepth 100000
namespace Go.Proofs.Ytfbeepkogcmlmaa
open Go Go.ChangeShapes Go.WideShapes Go.ChangeAt Go.RowKit Go.Joins Go.Deep
theorem key_str {a b:ByteArray} (h:a.data.toList=b.data.toList):a=b:=by
 cases a;cases b;simp at h⊢;exact h
def zF (s:ByteArray):Bool:=decide ((0:UInt8)∈s.data.toList)
theorem QB (s:ByteArray):zF s=decide (0≤Lib.indexByte s.data.toList 0):=by
 have h:=Lib.contains_iff_indexByte s.data.toList 0
 unfold zF
 simpa using h
theorem yG (s:ByteArray) (w:World):Calls Try.prog 59 #[.string s] w fun r w'=>r=.returned (.bool (zF s))∧w'=w:=by
 have hc:=Try.strings_IndexByte s 0 w
 rw[show ((0:Int).toNat.toUInt8)=0 from rfl] at hc
 have HE:Hid (zF s=decide (0≤Lib.indexByte s.data.toList 0)):=QB s
 generalize Lib.indexByte s.data.toList 0=q at *
 have HC:=zh hc
 clear hc
 go_enter Try.func59,Try.ntmps59
 go_wp2_with fail
 refine HC.out.mono ?_
 rintro r w' ⟨rfl,rfl⟩
 go_wp2_with fail
 go_ret
 exact⟨by rw[HE.out];rfl,rfl⟩
def zZ (k:ByteArray) (l:List ByteArray):Bool:=l.any fun x=>decide (x=k)
theorem vI (k:ByteArray) (l:List ByteArray):zZ k l=true↔k∈l:=by simp[zZ]
def kH:List ByteArray→List ByteArray→Int
 | _,[]=>0
 | had,k::r=>if zF k=true then 70 else if zZ k had=true then 71 else kH (had++[k]) r
def kU:Tr→Int | .mk k n u s keys l=>if k=5∧zF s=true then 70 else kH [] keys
def KS (l:List ByteArray):DataW Unit:=l.foldl (fun D k=>D.put (.string k.data.toList) (.lit (.bool true))) (.map [])
theorem J4 (l:List ByteArray) (k:ByteArray):KS (l++[k])=(KS l).put (.string k.data.toList) (.lit (.bool true)):=by simp[KS]
theorem put_map {H:Type} {D:DataW H} (h:Go.Maps.IsMap D) (k:Lit) (d:DataW H):Go.Maps.IsMap (D.put k d):=by
 obtain⟨es,rfl⟩:=h
 exact⟨_,rfl⟩
theorem a6 (l:List ByteArray):Go.Maps.IsMap (KS l):=by
 unfold KS
 suffices h:∀(l:List ByteArray) (D:DataW Unit),Go.Maps.IsMap D→Go.Maps.IsMap (l.foldl (fun D k=>D.put (.string k.data.toList) (.lit (.bool true))) D) from h l _ ⟨[],rfl⟩
 intro l
 induction l with
 | nil=>intro D h;exact h
 | cons k r ih=>intro D h;exact ih _ (put_map h _ _)
theorem KZ (k:ByteArray) (l:List ByteArray):(KS l).atKey (.string k.data.toList) (.lit (.bool false))=.lit (.bool (zZ k l)):=by
 obtain⟨m,hm⟩:∃m,m=l.length:=⟨_,rfl⟩
 induction m generalizing l with
 | zero=>
  obtain rfl:=List.length_eq_zero_iff.1 hm.symm
  rfl
 | succ m ih=>
  obtain⟨l,x,rfl⟩:∃l' x,l=l'++[x]:=⟨l.dropLast,l.getLast (by intro e;subst e;simp at hm),(List.dropLast_concat_getLast _).symm⟩
  rw[J4]
  by_cases e:k=x
  ·subst e
   rw[Go.Maps.atKey_put_same (a6 l) (by simp[WideAt.IsKeyLit])]
   simp[zZ]
  ·rw[Go.Maps.atKey_put_other (fun h=>e (key_str (by injection h))),ih l (by simp at hm;omega)]
   simp[zZ,Ne.symm e,fun h=>e (Eq.symm h)]
theorem vY {H:Type} {P:Program} {e:TypeId} (he:P.underlying e=some .bool) {v:Value} {z:DataW H × List MemPlace} (h:plainElem P e v=some z):∃x,v=.bool x∧z=(.lit (.bool x),[]):=by
 unfold plainElem at h
 rw[he] at h
 cases v<;>simp at h
 exact⟨_,rfl,h.symm⟩
theorem zA {H:Type} {P:Program} (w:World) {ops:Array Oper} {rest:List Oper} {o:Oper} {a:Act} {Q:Exit→Act→World→Prop}
 (hg:o.guard=none) (m x:Operand) (t:TypeId) (hop:o.op=Op.lookup t m x false)
 (k e:TypeId) (K:Go.Maps.Keyed P k) (ht:P.underlying t=some (.map k e)) (he:P.underlying e=some .bool) (hz:(zeroValue e).run P w=.ok (.bool false) w) (b n:Nat) (D:DataW H)
 (hm:a.eval m=.map (some b)) (kE:w.ownsMap P k (plainElem P e) b n D) (key:Value) (kl:Lit) (hx:a.eval x=key) (hkey:keyOf P k key=some kl) (y:Bool) (hat:D.atKey kl (.lit (.bool false))=.lit (.bool y))
 (hK:wpList P ops Q rest (a.put o.dst (.bool y)) w) :
 wpList P ops Q (o::rest) a w:=by
 refine wpList_plain hg fun K' hK'=>?_
 obtain⟨v,ps,hrun,hv⟩:=kE.lookup K ht hz (plainElem_bool he false) hkey
 obtain⟨c,rfl,hc⟩:=vY he hv
 simp only[Prod.mk.injEq] at hc
 rw[hat] at hc
 obtain⟨hc,_⟩:=hc
 injection hc with hc
 injection hc with hc
 subst hc
 unfold Oper.wp
 simp[execOp,hop,hm,hx,hrun,Result.andThen]
 exact hK' _ _ hK
theorem K7 {keys:List ByteArray} {i:Nat} {x:ByteArray} (h:keys[i]? = some x):kH (keys.take i) (keys.drop i)=if zF x=true then 70 else if zZ x (keys.take i)=true then 71 else kH (keys.take (i+1)) (keys.drop (i+1)):=by
 obtain⟨hl,hx⟩:=List.getElem?_eq_some_iff.1 h
 rw[List.drop_eq_getElem_cons hl,hx]
 simp only[kH]
 rw[List.take_add_one,h]
 rfl
theorem V8 (t:Tr) (v:Value) (w:World) (hn:jL w t v) :
 Calls Try.prog 37 #[v] w fun r w'=>r=.returned (.int .i64 (kU t))∧jC w w':=by
 obtain⟨k,n,u,s,keys,l⟩:=t
 simp only[jL] at hn
 obtain⟨hb,kv,lv,vs,rfl,hks,kS,kP⟩:=hn
 have HKS:=zh hks
 obtain⟨a4,c4,rfl,hkc,hkm,hx3,hx4⟩:=hks
 obtain⟨a5,c5,rfl,hll,hc5,hx5,hx6⟩:=kS
 have hmm:=@run_makeMap Try.prog
 have hk4:keys.length≤9223372036854775807:=by unfold jI at hkm;omega
 clear hx3 hx4 hx5 hx6 hll hc5 kP hkc hkm hb
 by_cases hz:k=5∧zF s=true
 ·obtain⟨rfl,hz⟩:=hz
  have HF:Hid (kU (.mk 5 n u s keys l)=70):=by show _=_;simp[kU,hz]
  go_enter Try.func37,Try.ntmps37
  go_wp2_with (go_at_call 59;refine (yG _ _).mono ?_;rintro r w2 ⟨rfl,rfl⟩;rw[hz])
  go_ret
  exact⟨by rw[HF.out];rfl,(jC.refl w).alloc _⟩
 have HF:Hid (kU (.mk k n u s keys l)=kH [] keys):=by show _=_;simp only[kU];rw[if_neg hz]
 have hz5:k=5→zF s=false:=fun h=>by simpa [h] using hz
 clear hz
 generalize kU (.mk k n u s keys l)=E at *
 by_cases h5:k=5
 ·have hz:=hz5 h5
  subst h5
  clear hz5
  go_enter Try.func37,Try.ntmps37
  go_wp2_with (go_at_call 59;refine (yG _ _).mono ?_;rintro r w2 ⟨rfl,rfl⟩;rw[hz])
  go_loopw [20] (fun i wr=>∃j:Nat,j≤keys.length∧i=.int .i64 j∧Hid (wr.ownsMap Try.prog 9 (plainElem Try.prog 4) (w.heap.size+1) j (KS (keys.take j))∧jC w wr∧kH (keys.take j) (keys.drop j)=kH [] keys)) (fun i _=>keys.length - (intOf i).toNat)
  case atStart=>
   refine⟨0,Nat.zero_le _,rfl,?_⟩
   show _∧_∧_
   exact⟨by have:=World.ownsMap_made (H:=Unit) (w.alloc (.cells #[.int .i64 5,.int .i64 n,.int .u64 u,.string s,.slice a4 keys.length c4,.slice a5 vs.length c5] 26)) Try.prog 9 (plainElem Try.prog 4);rw[World.size_alloc] at this;exact this,((jC.refl w).alloc _).alloc _,rfl⟩
  case round=>
   obtain⟨j,hj,rfl,HW⟩:=hrel
   by_cases hlt:j < keys.length
   ·obtain⟨x,hx⟩:∃x,keys[j]? = some x:=⟨_,List.getElem?_eq_getElem hlt⟩
    have HT:=zh (K7 hx)
    have HTK:Hid (keys.take j++[x]=keys.take (j+1)):=by show _=_;rw[List.take_add_one,hx];rfl
    obtain⟨lx,b,off,rfl,hcx⟩:∃(lx:jI x.size) (b off:Nat),a4=some ⟨b,off,none⟩∧wr.cell? ⟨b,off+j,none⟩=some (.string x):=by
     obtain⟨a,c,e,_,_,_,h⟩:=HKS.out
     injection e with e1 e2 e3
     subst e1
     obtain⟨hx1,b,off,e,hc⟩:=h j x hx
     exact⟨hx1,b,off,e,HW.out.2.1.cell hc⟩
    have hkey:Hid (keyOf Try.prog 9 (.string x)=some (.string x.data.toList)):=Go.WideMaps.keyOf_string_mk Try.underlying9 (by unfold jI at lx;unfold maxLen;omega)
    clear hx lx
    have yD:(j:Int) < keys.length:=by omega
    by_cases h0:zF x=true
    ·have HF2:Hid (E=70):=by
      show _=_
      rw[HF.out,← HW.out.2.2,HT.out,if_pos h0]
     go_wp2_with (go_at_call 59;refine (yG _ _).mono ?_;rintro r w2 ⟨rfl,rfl⟩;rw[h0])
     go_ret
     exact⟨by rw[HF2.out];rfl,HW.out.2.1⟩
    ·have hz0:zF x=false:=by simpa using h0
     clear h0
     cases hs:zZ x (keys.take j)
     ·have HS:Hid (kH (keys.take j) (keys.drop j)=kH (keys.take (j+1)) (keys.drop (j+1))):=by
       show _=_
       rw[HT.out,hz0,hs];rfl
      have HAT:Hid ((KS (keys.take j)).atKey (.string x.data.toList) (.lit (.bool false))=.lit (.bool false)):=by show _=_;rw[KZ,hs]
      clear hs HT
      go_wp2_with (first
       | (go_at_call 59;refine (yG _ _).mono ?_;rintro r w2 ⟨rfl,rfl⟩;rw[hz0])
       | (at_lookup;refine zA _ rfl _ _ 68 rfl 9 4 (Go.Maps.string_keyed Try.underlying9) Try.underlying68 Try.underlying4 (Try.zeroValue4 _) (w.heap.size+1) j _ rfl HW.out.1 _ _ rfl hkey.out false HAT.out ?_)
       | (at_mapUpdate;refine wpList_mapUpdate_own _ rfl _ _ _ 68 rfl 9 4 (Go.Maps.string_keyed Try.underlying9) Try.underlying68 _ (w.heap.size+1) j _ rfl HW.out.1 (by unfold maxLen;omega) _ _ _ rfl rfl hkey.out _ [] (plainElem_bool Try.underlying4 true) ?_;intro w1 hown1 hgrow1;have HN:=zh (And.intro hown1 hgrow1);clear hown1 hgrow1))
      go_roundw
      case rel=>
       refine⟨j+1,by omega,by go_num,?_⟩
       show _∧_∧_
       refine⟨?_,?_,by rw[← HS.out];exact HW.out.2.2⟩
       ·rw[← HTK.out,J4];exact HN.out.1
       ·exact Below.grown HW.out.2.1 HN.out.2 HW.out.2.1.size (fun q e=>by injection e with e;omega)
      case measure=>simp[intOf];omega
     ·have HF2:Hid (E=71):=by
       show _=_
       rw[HF.out,← HW.out.2.2,HT.out,hz0,hs];rfl
      have HAT:Hid ((KS (keys.take j)).atKey (.string x.data.toList) (.lit (.bool false))=.lit (.bool true)):=by show _=_;rw[KZ,hs]
      clear hs HT
      go_wp2_with (first
       | (go_at_call 59;refine (yG _ _).mono ?_;rintro r w2 ⟨rfl,rfl⟩;rw[hz0])
       | (at_lookup;refine zA _ rfl _ _ 68 rfl 9 4 (Go.Maps.string_keyed Try.underlying9) Try.underlying68 Try.underlying4 (Try.zeroValue4 _) (w.heap.size+1) j _ rfl HW.out.1 _ _ rfl hkey.out true HAT.out ?_))
      go_ret
      exact⟨by rw[HF2.out];rfl,HW.out.2.1⟩
   ·have ej:j=keys.length:=by omega
    subst ej
    have HF2:Hid (E=0):=by
     show _=_
     rw[HF.out,← HW.out.2.2]
     simp[kH]
    go_wp2_with fail
    go_ret
    exact⟨by rw[HF2.out];rfl,HW.out.2.1⟩
 ·clear hz5
  go_enter Try.func37,Try.ntmps37
  go_wp2_with fail
  go_loopw [20] (fun i wr=>∃j:Nat,j≤keys.length∧i=.int .i64 j∧Hid (wr.ownsMap Try.prog 9 (plainElem Try.prog 4) (w.heap.size+1) j (KS (keys.take j))∧jC w wr∧kH (keys.take j) (keys.drop j)=kH [] keys)) (fun i _=>keys.length - (intOf i).toNat)
  case atStart=>
   refine⟨0,Nat.zero_le _,rfl,?_⟩
   show _∧_∧_
   exact⟨by have:=World.ownsMap_made (H:=Unit) (w.alloc (.cells #[.int .i64 k,.int .i64 n,.int .u64 u,.string s,.slice a4 keys.length c4,.slice a5 vs.length c5] 26)) Try.prog 9 (plainElem Try.prog 4);rw[World.size_alloc] at this;exact this,((jC.refl w).alloc _).alloc _,rfl⟩
  case round=>
   obtain⟨j,hj,rfl,HW⟩:=hrel
   by_cases hlt:j < keys.length
   ·obtain⟨x,hx⟩:∃x,keys[j]? = some x:=⟨_,List.getElem?_eq_getElem hlt⟩
    have HT:=zh (K7 hx)
    have HTK:Hid (keys.take j++[x]=keys.take (j+1)):=by show _=_;rw[List.take_add_one,hx];rfl
    obtain⟨lx,b,off,rfl,hcx⟩:∃(lx:jI x.size) (b off:Nat),a4=some ⟨b,off,none⟩∧wr.cell? ⟨b,off+j,none⟩=some (.string x):=by
     obtain⟨a,c,e,_,_,_,h⟩:=HKS.out
     injection e with e1 e2 e3
     subst e1
     obtain⟨hx1,b,off,e,hc⟩:=h j x hx
     exact⟨hx1,b,off,e,HW.out.2.1.cell hc⟩
    have hkey:Hid (keyOf Try.prog 9 (.string x)=some (.string x.data.toList)):=Go.WideMaps.keyOf_string_mk Try.underlying9 (by unfold jI at lx;unfold maxLen;omega)
    clear hx lx
    have yD:(j:Int) < keys.length:=by omega
    by_cases h0:zF x=true
    ·have HF2:Hid (E=70):=by
      show _=_
      rw[HF.out,← HW.out.2.2,HT.out,if_pos h0]
     go_wp2_with (go_at_call 59;refine (yG _ _).mono ?_;rintro r w2 ⟨rfl,rfl⟩;rw[h0])
     go_ret
     exact⟨by rw[HF2.out];rfl,HW.out.2.1⟩
    ·have hz0:zF x=false:=by simpa using h0
     clear h0
     cases hs:zZ x (keys.take j)
     ·have HS:Hid (kH (keys.take j) (keys.drop j)=kH (keys.take (j+1)) (keys.drop (j+1))):=by
       show _=_
       rw[HT.out,hz0,hs];rfl
      have HAT:Hid ((KS (keys.take j)).atKey (.string x.data.toList) (.lit (.bool false))=.lit (.bool false)):=by show _=_;rw[KZ,hs]
      clear hs HT
      go_wp2_with (first
       | (go_at_call 59;refine (yG _ _).mono ?_;rintro r w2 ⟨rfl,rfl⟩;rw[hz0])
       | (at_lookup;refine zA _ rfl _ _ 68 rfl 9 4 (Go.Maps.string_keyed Try.underlying9) Try.underlying68 Try.underlying4 (Try.zeroValue4 _) (w.heap.size+1) j _ rfl HW.out.1 _ _ rfl hkey.out false HAT.out ?_)
       | (at_mapUpdate;refine wpList_mapUpdate_own _ rfl _ _ _ 68 rfl 9 4 (Go.Maps.string_keyed Try.underlying9) Try.underlying68 _ (w.heap.size+1) j _ rfl HW.out.1 (by unfold maxLen;omega) _ _ _ rfl rfl hkey.out _ [] (plainElem_bool Try.underlying4 true) ?_;intro w1 hown1 hgrow1;have HN:=zh (And.intro hown1 hgrow1);clear hown1 hgrow1))
      go_roundw
      case rel=>
       refine⟨j+1,by omega,by go_num,?_⟩
       show _∧_∧_
       refine⟨?_,?_,by rw[← HS.out];exact HW.out.2.2⟩
       ·rw[← HTK.out,J4];exact HN.out.1
       ·exact Below.grown HW.out.2.1 HN.out.2 HW.out.2.1.size (fun q e=>by injection e with e;omega)
      case measure=>simp[intOf];omega
     ·have HF2:Hid (E=71):=by
       show _=_
       rw[HF.out,← HW.out.2.2,HT.out,hz0,hs];rfl
      have HAT:Hid ((KS (keys.take j)).atKey (.string x.data.toList) (.lit (.bool false))=.lit (.bool true)):=by show _=_;rw[KZ,hs]
      clear hs HT
      go_wp2_with (first
       | (go_at_call 59;refine (yG _ _).mono ?_;rintro r w2 ⟨rfl,rfl⟩;rw[hz0])
       | (at_lookup;refine zA _ rfl _ _ 68 rfl 9 4 (Go.Maps.string_keyed Try.underlying9) Try.underlying68 Try.underlying4 (Try.zeroValue4 _) (w.heap.size+1) j _ rfl HW.out.1 _ _ rfl hkey.out true HAT.out ?_))
      go_ret
      exact⟨by rw[HF2.out];rfl,HW.out.2.1⟩
   ·have ej:j=keys.length:=by omega
    subst ej
    have HF2:Hid (E=0):=by
     show _=_
     rw[HF.out,← HW.out.2.2]
     simp[kH]
    go_wp2_with fail
    go_ret
    exact⟨by rw[HF2.out];rfl,HW.out.2.1⟩
theorem Q4 (l:List ByteArray) (lv:Value) (bx i j:Nat) (x y:ByteArray) (hx:l[i]? = some x) (hy:l[j]? = some y) (W:World) (hs:kO W lv l) (hb:W.cell? ⟨bx,0,none⟩=some lv) :
 Calls Try.prog 70 #[.int .i64 i,.int .i64 j,.pointer (some ⟨bx,0,none⟩)] W fun e w'=>e=.returned (.int .i64 (Lib.compareBytes x.data.toList y.data.toList))∧∃q,w'=W.drewN q:=by
 have hi:i < l.length:=(List.getElem?_eq_some_iff.1 hx).1
 have hj:j < l.length:=(List.getElem?_eq_some_iff.1 hy).1
 obtain⟨a,c,rfl,hlc,hc,_,zG⟩:=hs
 obtain⟨_,b,off,rfl,h0⟩:=zG i x hx
 obtain⟨_,b',off',e,h1⟩:=zG j y hy
 cases e
 have hcmp:=Try.strings_Compare x y
 have HC:=zh hcmp
 unfold jI at hc
 have hii:(i:Int) < l.length:=by omega
 have hji:(j:Int) < l.length:=by omega
 clear zG hx hy hcmp
 generalize Lib.compareBytes x.data.toList y.data.toList=q at *
 go_enter Try.func70,Try.ntmps70
 go_wp2_with fail
 go_quiet ((go_at_call 71;exact Calls.quiet_of_same (HC.out _)))
 go_wp2
 go_ret
 exact⟨rfl,_,rfl⟩
abbrev yE:=Lib.compareBytes
theorem Z4:∀a:List UInt8,yE a a=0
 | []=>rfl
 | x::a=>by
  show (if x < x then (-1:Int) else if x < x then 1 else yE a a)=0
  rw[if_neg (UInt8.lt_irrefl x),if_neg (UInt8.lt_irrefl x),Z4 a]
theorem Z5:∀a b:List UInt8,yE b a = - yE a b
 | [],[]=>rfl
 | [],_::_=>rfl
 | _::_,[]=>rfl
 | x::a,y::b=>by
  show (if y < x then (-1:Int) else if x < y then 1 else yE b a) = - (if x < y then (-1:Int) else if y < x then 1 else yE a b)
  by_cases h1:x < y
  ·have h2:¬y < x:=fun h=>UInt8.lt_irrefl _ (UInt8.lt_trans h1 h)
   rw[if_neg h2,if_pos h1,if_pos h1];rfl
  ·by_cases h2:y < x
   ·rw[if_pos h2,if_neg h1,if_pos h2]
   ·rw[if_neg h2,if_neg h1,if_neg h1,if_neg h2]
    exact Z5 a b
theorem Z6:∀a b:List UInt8,yE a b=0→a=b
 | [],[],_=>rfl
 | [],_::_,h=>by simp[yE,Lib.compareBytes] at h
 | _::_,[],h=>by simp[yE,Lib.compareBytes] at h
 | x::a,y::b,h=>by
  have h':(if x < y then (-1:Int) else if y < x then 1 else yE a b)=0:=h
  by_cases h1:x < y
  ·rw[if_pos h1] at h';omega
  ·by_cases h2:y < x
   ·rw[if_neg h1,if_pos h2] at h';omega
   ·rw[if_neg h1,if_neg h2] at h'
    have hxy:x=y:=by
     apply UInt8.toNat_inj.1
     have q1:¬x.toNat < y.toNat:=fun h=>h1 (UInt8.lt_iff_toNat_lt.2 h)
     have q2:¬y.toNat < x.toNat:=fun h=>h2 (UInt8.lt_iff_toNat_lt.2 h)
     omega
    rw[hxy,Z6 a b h']
theorem K8:∀a b c:List UInt8,yE a b < 0→yE b c < 0→yE a c < 0
 | [],[],_,h,_=>by simp[yE,Lib.compareBytes] at h
 | [],_::_,[],_,h=>by simp[yE,Lib.compareBytes] at h
 | [],_::_,_::_,_,_=>by simp[yE,Lib.compareBytes]
 | _::_,[],_,h,_=>by simp[yE,Lib.compareBytes] at h
 | _::_,_::_,[],_,h=>by simp[yE,Lib.compareBytes] at h
 | x::a,y::b,z::c,h,g=>by
  have h':(if x < y then (-1:Int) else if y < x then 1 else yE a b) < 0:=h
  have g':(if y < z then (-1:Int) else if z < y then 1 else yE b c) < 0:=g
  show (if x < z then (-1:Int) else if z < x then 1 else yE a c) < 0
  simp only[UInt8.lt_iff_toNat_lt] at *
  by_cases h1:x.toNat < y.toNat
  ·by_cases g1:y.toNat < z.toNat
   ·rw[if_pos (by omega)];omega
   ·by_cases g2:z.toNat < y.toNat
    ·rw[if_neg g1,if_pos g2] at g';omega
    ·rw[if_pos (by omega)];omega
  ·by_cases h2:y.toNat < x.toNat
   ·rw[if_neg h1,if_pos h2] at h';omega
   ·rw[if_neg h1,if_neg h2] at h'
    by_cases g1:y.toNat < z.toNat
    ·rw[if_pos (by omega)];omega
    ·by_cases g2:z.toNat < y.toNat
     ·rw[if_neg g1,if_pos g2] at g';omega
     ·rw[if_neg g1,if_neg g2] at g'
      rw[if_neg (by omega),if_neg (by omega)]
      exact K8 a b c h' g'
def ltS (a b:ByteArray):Bool:=decide (yE a.data.toList b.data.toList < 0)
theorem qE (a:ByteArray):ltS a a=false:=by simp[ltS,Z4]
theorem yX {a b c:ByteArray} (h:ltS a b=true) (g:ltS b c=true):ltS a c=true:=by
 simp only[ltS,decide_eq_true_eq] at *
 exact K8 _ _ _ h g
theorem vJ {a b:ByteArray} (h:ltS a b=false) (g:ltS b a=false):a=b:=by
 simp only[ltS,decide_eq_false_iff_not] at *
 have hf:=Z5 a.data.toList b.data.toList
 exact bytes_inj (Z6 _ _ (by omega))
theorem Q5 {a b c:ByteArray} (h:ltS a b=false) (g:ltS b c=false):ltS a c=false:=by
 cases hc:ltS a c with
 | false=>rfl
 | true=>
  exfalso
  cases hb:ltS b a with
  | true=>have:=yX hb hc;rw[g] at this;cases this
  | false=>
   have e:=vJ h hb
   subst e
   rw[g] at hc;cases hc
theorem K9 {α:Type} [Inhabited α] (enc:α→Value) (w:World) (blk off m:Nat) (dk:Array α) (os:Array Obj):Moved (fun k=>k=blk) w (sortWorld enc w blk off m dk os):=by
 refine⟨rfl,rfl,rfl,?_,fun k hk hne=>?_⟩
 ·simp[sortWorld,Go.Sort.grow,Go.Sort.putRow,Go.Sort.mapBlock,Go.Sort.ahead]
 ·simp only[sortWorld,Go.Sort.grow,Go.Sort.putRow,Go.Sort.mapBlock,Go.Sort.ahead]
  rw[Array.getElem?_append_left (by simpa using hk),Array.getElem?_modify,if_neg (fun e=>hne e.symm)]
theorem vS {α:Type} (a:Array α) (n:Nat) (h:a.size=n):a.extract 0 n=a:=by subst h;simp
def encF {n:Nat} (x:Fin n):Value:=.int .i64 ((x.1:Nat):Int)
def cfF (l:List ByteArray) (x y:Fin l.length):Int:=yE l[x].data.toList l[y].data.toList
theorem swo_cfF (l:List ByteArray):Go.Sort.SWO (ltOf (cfF l)) where
 irrefl x:=qE l[x]
 trans x y z h g:=yX (a:=l[x]) (b:=l[y]) (c:=l[z]) h g
 ntrans x y z h g:=Q5 (a:=l[x]) (b:=l[y]) (c:=l[z]) h g
theorem kO.moved {S:Nat→Prop} {w w':World} {v:Value} {ks:List ByteArray} (h:kO w v ks) (hm:Moved S w w') (hS:∀a n c,v=.slice (some a) n c→¬S a.block):kO w' v ks:=by
 obtain⟨a,c,rfl,h2,h3,h4,h5⟩:=h
 refine⟨a,c,rfl,h2,h3,h4,fun i s hs=>?_⟩
 obtain⟨hz,b,off,e,hc⟩:=h5 i s hs
 subst e
 exact⟨hz,b,off,rfl,hm.cell (p:=⟨b,off+i,none⟩) hc (hS ⟨b,off,none⟩ _ _ rfl)⟩
theorem YP (l:List ByteArray) (h0:0 < l.length) (hl:l.length≤1099511627776) (lv:Value) (bx blk:Nat) (w:World) (hs:kO w lv l) (hb:w.cell? ⟨bx,0,none⟩=some lv) (hbx:bx≠blk) (hlv:∀a n c,lv=.slice (some a) n c→a.block≠blk)
 (jP:∀j,j < l.length→w.cell? ⟨blk,j,none⟩=some (.int .i64 (j:Int))∧w.frozen? ⟨blk,j,none⟩=false) (hblk:blk < w.heap.size) (cap:Nat) :
 Calls Try.prog 69 #[.slice (some ⟨blk,0,none⟩) l.length cap,.func (.func 70) #[] #[.pointer (some ⟨bx,0,none⟩)]] w fun r w'=>
  r=.returned (.tuple #[])∧∃p:List (Fin l.length),p.Perm (List.finRange l.length)∧(∀(i j:Nat) x y,i < j→p[i]? = some x→p[j]? = some y→ltS l[y] l[x]=false)∧(∀(i:Nat) (x:Fin l.length),p[i]? = some x→w'.cell? ⟨blk,i,none⟩=some (.int .i64 ((x.1:Nat):Int)))∧Moved (fun k=>k=blk) w w':=by
 have:Inhabited (Fin l.length):=⟨⟨0,h0⟩⟩
 have eg:∀args w,(callFunc 70 args).run Try.prog w=.ok (.enter 70 args) w:=enters_of Try.func70 zk rfl
 have hd:((List.finRange l.length).toArray).size=l.length:=by simp
 have hcmp:CmpLays1 Try.prog 70 #[.pointer (some ⟨bx,0,none⟩)] encF (cfF l) blk 0 ((List.finRange l.length).toArray).size w:=by
  refine CmpReads.lays fun m os dk hk x y=>?_
  have hm:=K9 (encF (n:=l.length)) w blk 0 m dk os
  exact Q4 l lv bx x.1 y.1 l[x] l[y] (List.getElem?_eq_getElem x.2) (List.getElem?_eq_getElem y.2) _ (hs.moved hm (fun a n c e=>hlv a n c e)) (hm.cell hb hbx)
 have hH:Go.Sort.Holds (encF (n:=l.length)) w blk 0 (List.finRange l.length).toArray:=by
  intro j hj
  rw[hd] at hj
  rw[getElem!_pos _ j (by simpa using hj),Nat.zero_add]
  simpa [encF] using jP j hj
 have hcon:=Try.slices_SortFunc (encF (n:=l.length)) (fun _=>rfl) (cfF l) (swo_cfF l) 70 #[.pointer (some ⟨bx,0,none⟩)] blk 0 cap (List.finRange l.length).toArray w eg hcmp hH hblk (by rw[hd];omega)
 rw[hd] at hcon
 refine hcon.mono ?_
 rintro r w' ⟨rfl,d',n,os,hp,hsd,rfl⟩
 obtain⟨hsz,_,hperm⟩:=hp
 have hdn:d'.size=l.length:=hsz.trans hd
 refine⟨rfl,d'.toList,?_,fun i j x y hij hx hy=>?_,fun i x hx=>?_,K9 _ w blk 0 n d' os⟩
 ·have e1:d'.extract 0 l.length=d':=vS _ _ hdn
  have e2:(List.finRange l.length).toArray.extract 0 l.length=(List.finRange l.length).toArray:=vS _ _ hd
  rw[e1,e2] at hperm
  simpa using hperm
 ·have hj:=(List.getElem?_eq_some_iff.1 hy).1
  have hi:=(List.getElem?_eq_some_iff.1 hx).1
  have h:=hsd i j (Nat.zero_le _) hij (by simpa [hdn] using hj)
  rw[getElem!_pos d' j (by simpa using hj),getElem!_pos d' i (by simpa using hi)] at h
  have ex:d'[i]'(by simpa using hi)=x:=by have:=(List.getElem?_eq_some_iff.1 hx).2;simpa using this
  have ey:d'[j]'(by simpa using hj)=y:=by have:=(List.getElem?_eq_some_iff.1 hy).2;simpa using this
  rw[ex,ey] at h
  exact h
 ·have hi:=(List.getElem?_eq_some_iff.1 hx).1
  have h:=(Go.Proofs.holds_sortWorld (encF (n:=l.length)) w blk 0 n _ d' os hblk hH hsz i (by simpa using hi)).1
  rw[getElem!_pos d' i (by simpa using hi)] at h
  have ex:d'[i]'(by simpa using hi)=x:=by have:=(List.getElem?_eq_some_iff.1 hx).2;simpa using this
  rw[ex,Nat.zero_add] at h
  exact h
end Go.Proofs.Ytfbeepkogcmlmaa
