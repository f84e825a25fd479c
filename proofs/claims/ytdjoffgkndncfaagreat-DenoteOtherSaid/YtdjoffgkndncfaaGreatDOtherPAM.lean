/-Texts-/
import Derived.Test.YtdjoffgkndncfaaGreatDOtherPAL
import Derived.Test.YtdjoffgkndncfaaGreatDOtherPAJ
import Derived.Maps.OwnOps
import Derived.Maps.Views
import Derived.Lib.IndexAny
set_option linter.unusedVariables false
set_option linter.unusedSimpArgs false
set_option maxHeartbeats 8000000
set_option maxRecDepth 100000
namespace Go.Proofs.YtdjoffgkndncfaaGreat
open Go.Proofs.Tryz
open Go Go.ChangeShapes Go.WideShapes Go.ChangeAt Go.RowKit Go.Joins Go.Deep
variable {a b c:ByteArray} {P:Program} {v:Value}
theorem key_str (h:a.data.toList=b.data.toList):a=b:=by
 cases a;cases b;simp at h⊢;exact h
def JI (s:ByteArray):Bool:=decide ((0:UInt8)∈s.data.toList)
theorem uS (s:ByteArray):JI s=decide (0≤Lib.indexByte s.data.toList 0):=by
 have h:=Lib.contains_iff_indexByte s.data.toList 0;unfold JI;simpa using h
theorem ZO (s:ByteArray) (w:World):Calls prog 66 #[.string s] w λr w'=>r=.returned (.bool (JI s))∧w'=w:=by
 have hc:=Tryz.strings_IndexByte s 0 w;rw[show ((0:Int).toNat.toUInt8)=0 from rfl] at hc;have HE:Hid (JI s=decide (0≤Lib.indexByte s.data.toList 0)):=uS s;generalize Lib.indexByte s.data.toList 0=q at *;have HC:=zh hc;clear hc;go_enter func66,ntmps66;go_wp2_with fail;refine HC.mono ?_;rintro r w' ⟨rfl,rfl⟩;go_wp2;go_ret;exact⟨by rw[HE];rfl,rfl⟩
def aE (k:ByteArray) (l:List ByteArray):Bool:=l.any λx=>decide (x=k)
theorem fD (k:ByteArray) (l:List ByteArray):aE k l=true↔k∈l:=by simp[aE]
def J7:List ByteArray→List ByteArray→Int
 | _,[]=>0
 | had,k::r=>if JI k=true then 70 else if aE k had=true then 71 else J7 (had++[k]) r
def qH:Tr→Int | .mk k n u s keys l=>if k=5∧JI s=true then 70 else J7 [] keys
def iR (l:List ByteArray):DataW Unit:=l.foldl (λD k=>D.put (.string k.data.toList) (.lit (.bool true))) (.map [])
theorem fE (l:List ByteArray) (k:ByteArray):iR (l++[k])=(iR l).put (.string k.data.toList) (.lit (.bool true)):=by simp[iR]
theorem H9 {H:Type} {D:DataW H} (h:Go.Maps.IsMap D) (k:Lit) (d:DataW H):Go.Maps.IsMap (D.put k d):=by
 obtain⟨es,rfl⟩:=h;exact⟨_,rfl⟩
theorem LA (l:List ByteArray):Go.Maps.IsMap (iR l):=by
 unfold iR
 suffices h:∀(l:List ByteArray) (D:DataW Unit),Go.Maps.IsMap D→Go.Maps.IsMap (l.foldl (λD k=>D.put (.string k.data.toList) (.lit (.bool true))) D) from h l _ ⟨[],rfl⟩
 intro l
 induction l with
 | nil=>intro D h;exact h
 | cons k r ih=>intro D h;exact ih _ (H9 h _ _)
theorem iU (k:ByteArray) (l:List ByteArray):(iR l).atKey (.string k.data.toList) (.lit (.bool false))=.lit (.bool (aE k l)):=by
 obtain⟨m,hm⟩:∃m,m=l.length:=⟨_,rfl⟩
 induction m generalizing l with
 | zero=>
  obtain rfl:=List.length_eq_zero_iff.1 hm.symm;rfl
 | succ m ih=>
  obtain⟨l,x,rfl⟩:∃l' x,l=l'++[x]:=⟨l.dropLast,l.getLast (by intro e;subst e;simp at hm),(List.dropLast_concat_getLast _).symm⟩;rw[fE];by_cases e:k=x
  ·subst e;rw[Go.Maps.atKey_put_same (LA l) (by simp[WideAt.IsKeyLit])];simp[aE]
  rw[Go.Maps.atKey_put_other (λh=>e (key_str (by injection h))),ih l (by simp at hm;omega)];simp[aE,Ne.symm e,λh=>e (Eq.symm h)]
theorem cM {H:Type} {e:TypeId} (he:P.underlying e=some .bool) {z:DataW H × List MemPlace} (h:plainElem P e v=some z):∃x,v=.bool x∧z=(.lit (.bool x),[]):=by
 unfold plainElem at h;rw[he] at h;cases v<;>simp at h;exact⟨_,rfl,h.symm⟩
theorem qX {H:Type} (w:World) {ops:Array Oper} {rest:List Oper} {o:Oper} {a:Act} {Q:Exit→Act→World→Prop}
 (hg:o.guard=none) (m x:Operand) (t:TypeId) (hop:o.op=Op.lookup t m x false)
 (k e:TypeId) (K:Go.Maps.Keyed P k) (ht:P.underlying t=some (.map k e)) (he:P.underlying e=some .bool) (hz:(zeroValue e).run P w=.ok (.bool false) w) (b n:Nat) (D:DataW H)
 (hm:a.eval m=.map (some b)) (j5:w.ownsMap P k (plainElem P e) b n D) (key:Value) (kl:Lit) (hx:a.eval x=key) (hkey:keyOf P k key=some kl) (y:Bool) (hat:D.atKey kl (.lit (.bool false))=.lit (.bool y))
 (hK:wpList P ops Q rest (a.put o.dst (.bool y)) w) :
 wpList P ops Q (o::rest) a w:=by
 refine wpList_plain hg λK' hK'=>?_;obtain⟨v,ps,hrun,hv⟩:=j5.lookup K ht hz (plainElem_bool he false) hkey;obtain⟨c,rfl,hc⟩:=cM he hv;simp only[Prod.mk.injEq] at hc;rw[hat] at hc;obtain⟨hc,_⟩:=hc;injection hc with hc;injection hc with hc;subst hc;unfold Oper.wp;simp[execOp,hop,hm,hx,hrun,Result.andThen];exact hK' _ _ hK
theorem lQ {keys:List ByteArray} {i:Nat} {x:ByteArray} (h:keys[i]? = some x):J7 (keys.take i) (keys.drop i)=if JI x=true then 70 else if aE x (keys.take i)=true then 71 else J7 (keys.take (i+1)) (keys.drop (i+1)):=by
 obtain⟨hl,hx⟩:=zi.1 h;rw[List.drop_eq_getElem_cons hl,hx];simp only[J7];rw[qo,h];rfl
theorem EO (t:Tr) (v:Value) (w:World) (hn:jM w t v) :
 Calls prog 37 #[v] w λr w'=>r=.returned (.int .i64 (qH t))∧jC w w':=by
 obtain⟨k,n,u,s,keys,l⟩:=t;simp only[jM] at hn;obtain⟨hb,kv,lv,vs,rfl,hks,yU,zN⟩:=hn;have HKS:=zh hks;obtain⟨a4,c4,rfl,hkc,hkm,hx3,hx4⟩:=hks;obtain⟨a5,c5,rfl,hll,hc5,hx5,hx6⟩:=yU;have hmm:=@run_makeMap prog;have hk4:keys.length≤9223372036854775807:=by unfold kI at hkm;omega
 clear hx3 hx4 hx5 hx6 hll hc5 zN hkc hkm hb;by_cases hz:k=5∧JI s=true
 ·obtain⟨rfl,hz⟩:=hz;have HF:Hid (qH (.mk 5 n u s keys l)=70):=by show _=_;simp[qH,hz]
  go_enter func37,ntmps37;go_wp2_with (go_at_call 66;refine (ZO _ _).mono ?_;rintro r w2 ⟨rfl,rfl⟩;rw[hz]);go_ret;exact⟨by rw[HF];rfl,(jC.refl w).alloc _⟩
 have HF:Hid (qH (.mk k n u s keys l)=J7 [] keys):=by show _=_;simp only[qH];rw[ze hz]
 have hz5:k=5→JI s=false:=λh=>by simpa [h] using hz
 clear hz;generalize qH (.mk k n u s keys l)=E at *;by_cases h5:k=5
 ·have hz:=hz5 h5;subst h5;clear hz5;go_enter func37,ntmps37;go_wp2_with (go_at_call 66;refine (ZO _ _).mono ?_;rintro r w2 ⟨rfl,rfl⟩;rw[hz])
  go_loopw [20] (λi wr=>∃j:Nat,j≤keys.length∧i=.int .i64 j∧Hid (wr.ownsMap prog 9 (plainElem prog 4) (w.heap.size+1) j (iR (keys.take j))∧jC w wr∧J7 (keys.take j) (keys.drop j)=J7 [] keys)) (λi _=>keys.length - (intOf i).toNat)
  case atStart=>
   refine⟨0,Nat.zero_le _,rfl,?_⟩;show _∧_∧_;exact⟨by have:=World.ownsMap_made (H:=Unit) (w.alloc (.cells #[.int .i64 5,.int .i64 n,.int .u64 u,.string s,.slice a4 keys.length c4,.slice a5 vs.length c5] 26)) prog 9 (plainElem prog 4);rw[zm] at this;exact this,((jC.refl w).alloc _).alloc _,rfl⟩
  case round=>
   obtain⟨j,hj,rfl,HW⟩:=hrel;by_cases hlt:j < keys.length
   ·obtain⟨x,hx⟩:∃x,keys[j]? = some x:=⟨_,za hlt⟩;have HT:=zh (lQ hx);have HTK:Hid (keys.take j++[x]=keys.take (j+1)):=by show _=_;rw[qo,hx];rfl
    obtain⟨lx,b,off,rfl,hcx⟩:∃(lx:kI x.size) (b off:Nat),a4=some ⟨b,off,none⟩∧wr.cell? ⟨b,off+j,none⟩=some (.string x):=by
     obtain⟨a,c,e,_,_,_,h⟩:=HKS.out;injection e with e1 e2 e3;subst e1;obtain⟨hx1,b,off,e,hc⟩:=h j x hx;exact⟨hx1,b,off,e,HW.2.1.cell hc⟩
    have hkey:Hid (keyOf prog 9 (.string x)=some (.string x.data.toList)):=Go.WideMaps.keyOf_string_mk underlying9 (by unfold kI at lx;unfold maxLen;omega);clear hx lx;have hlti:(j:Int) < keys.length:=(by omega);by_cases h0:JI x=true
    ·exact zb27
    have hz0:JI x=false:=(by simpa using h0);clear h0;cases hs:aE x (keys.take j)
    ·have HS:Hid (J7 (keys.take j) (keys.drop j)=J7 (keys.take (j+1)) (keys.drop (j+1))):=by
      show _=_;rw[HT,hz0,hs];rfl
     have HAT:Hid ((iR (keys.take j)).atKey (.string x.data.toList) (.lit (.bool false))=.lit (.bool false)):=(by show _=_;rw[iU,hs]);clear hs HT
     go_wp2_with (first
      | (go_at_call 66;refine (ZO _ _).mono ?_;rintro r w2 ⟨rfl,rfl⟩;rw[hz0])
      | (at_lookup;refine qX _ rfl _ _ 97 rfl 9 4 (Go.Maps.string_keyed underlying9) underlying97 underlying4 (Tryz.zeroValue4 _) (w.heap.size+1) j _ rfl HW.1 _ _ rfl hkey.out false HAT.out ?_)
      | (at_mapUpdate;refine wpList_mapUpdate_own _ rfl _ _ _ 97 rfl 9 4 (Go.Maps.string_keyed underlying9) underlying97 _ (w.heap.size+1) j _ rfl HW.1 gM _ _ _ rfl rfl hkey.out _ [] (plainElem_bool underlying4 true) ?_;intro w1 hown1 hgrow1;have HN:=zh (qa hown1 hgrow1);clear hown1 hgrow1))
     go_roundw
     case rel=>
      refine⟨j+1,by omega,by go_num,?_⟩;show _∧_∧_;refine⟨?_,?_,by rw[← HS.out];exact HW.2.2⟩
      ·rw[← HTK.out,fE];exact HN.1
      exact Below.grown HW.2.1 HN.2 HW.2.1.size (λq e=>by injection e with e;omega)
     case measure=>simp[intOf];omega
    have HF2:Hid (E=71):=by
     show _=_;rw[HF,← HW.2.2,HT,hz0,hs];rfl
    have HAT:Hid ((iR (keys.take j)).atKey (.string x.data.toList) (.lit (.bool false))=.lit (.bool true)):=(by show _=_;rw[iU,hs]);clear hs HT
    go_wp2_with (first
     | (go_at_call 66;refine (ZO _ _).mono ?_;rintro r w2 ⟨rfl,rfl⟩;rw[hz0])
     | (at_lookup;refine qX _ rfl _ _ 97 rfl 9 4 (Go.Maps.string_keyed underlying9) underlying97 underlying4 (Tryz.zeroValue4 _) (w.heap.size+1) j _ rfl HW.1 _ _ rfl hkey.out true HAT.out ?_))
    go_ret;exact⟨by rw[HF2];rfl,HW.2.1⟩
   exact zb28
 clear hz5;go_enter func37,ntmps37;go_wp2_with fail
 go_loopw [20] (λi wr=>∃j:Nat,j≤keys.length∧i=.int .i64 j∧Hid (wr.ownsMap prog 9 (plainElem prog 4) (w.heap.size+1) j (iR (keys.take j))∧jC w wr∧J7 (keys.take j) (keys.drop j)=J7 [] keys)) (λi _=>keys.length - (intOf i).toNat)
 case atStart=>
  refine⟨0,Nat.zero_le _,rfl,?_⟩;show _∧_∧_;exact⟨by have:=World.ownsMap_made (H:=Unit) (w.alloc (.cells #[.int .i64 k,.int .i64 n,.int .u64 u,.string s,.slice a4 keys.length c4,.slice a5 vs.length c5] 26)) prog 9 (plainElem prog 4);rw[zm] at this;exact this,((jC.refl w).alloc _).alloc _,rfl⟩
 case round=>
  obtain⟨j,hj,rfl,HW⟩:=hrel;by_cases hlt:j < keys.length
  ·obtain⟨x,hx⟩:∃x,keys[j]? = some x:=⟨_,za hlt⟩;have HT:=zh (lQ hx);have HTK:Hid (keys.take j++[x]=keys.take (j+1)):=by show _=_;rw[qo,hx];rfl
   obtain⟨lx,b,off,rfl,hcx⟩:∃(lx:kI x.size) (b off:Nat),a4=some ⟨b,off,none⟩∧wr.cell? ⟨b,off+j,none⟩=some (.string x):=by
    obtain⟨a,c,e,_,_,_,h⟩:=HKS.out;injection e with e1 e2 e3;subst e1;obtain⟨hx1,b,off,e,hc⟩:=h j x hx;exact⟨hx1,b,off,e,HW.2.1.cell hc⟩
   have hkey:Hid (keyOf prog 9 (.string x)=some (.string x.data.toList)):=Go.WideMaps.keyOf_string_mk underlying9 (by unfold kI at lx;unfold maxLen;omega);clear hx lx;have hlti:(j:Int) < keys.length:=(by omega);by_cases h0:JI x=true
   ·exact zb27
   have hz0:JI x=false:=(by simpa using h0);clear h0;cases hs:aE x (keys.take j)
   ·have HS:Hid (J7 (keys.take j) (keys.drop j)=J7 (keys.take (j+1)) (keys.drop (j+1))):=by
     show _=_;rw[HT,hz0,hs];rfl
    have HAT:Hid ((iR (keys.take j)).atKey (.string x.data.toList) (.lit (.bool false))=.lit (.bool false)):=(by show _=_;rw[iU,hs]);clear hs HT
    go_wp2_with (first
     | (go_at_call 66;refine (ZO _ _).mono ?_;rintro r w2 ⟨rfl,rfl⟩;rw[hz0])
     | (at_lookup;refine qX _ rfl _ _ 97 rfl 9 4 (Go.Maps.string_keyed underlying9) underlying97 underlying4 (Tryz.zeroValue4 _) (w.heap.size+1) j _ rfl HW.1 _ _ rfl hkey.out false HAT.out ?_)
     | (at_mapUpdate;refine wpList_mapUpdate_own _ rfl _ _ _ 97 rfl 9 4 (Go.Maps.string_keyed underlying9) underlying97 _ (w.heap.size+1) j _ rfl HW.1 gM _ _ _ rfl rfl hkey.out _ [] (plainElem_bool underlying4 true) ?_;intro w1 hown1 hgrow1;have HN:=zh (qa hown1 hgrow1);clear hown1 hgrow1))
    go_roundw
    case rel=>
     refine⟨j+1,by omega,by go_num,?_⟩;show _∧_∧_;refine⟨?_,?_,by rw[← HS.out];exact HW.2.2⟩
     ·rw[← HTK.out,fE];exact HN.1
     exact Below.grown HW.2.1 HN.2 HW.2.1.size (λq e=>by injection e with e;omega)
    case measure=>simp[intOf];omega
   have HF2:Hid (E=71):=by
    show _=_;rw[HF,← HW.2.2,HT,hz0,hs];rfl
   have HAT:Hid ((iR (keys.take j)).atKey (.string x.data.toList) (.lit (.bool false))=.lit (.bool true)):=(by show _=_;rw[iU,hs]);clear hs HT
   go_wp2_with (first
    | (go_at_call 66;refine (ZO _ _).mono ?_;rintro r w2 ⟨rfl,rfl⟩;rw[hz0])
    | (at_lookup;refine qX _ rfl _ _ 97 rfl 9 4 (Go.Maps.string_keyed underlying9) underlying97 underlying4 (Tryz.zeroValue4 _) (w.heap.size+1) j _ rfl HW.1 _ _ rfl hkey.out true HAT.out ?_))
   go_ret;exact⟨by rw[HF2];rfl,HW.2.1⟩
  exact zb28
theorem BJ (l:List ByteArray) (lv:Value) (bx i j:Nat) (x y:ByteArray) (hx:l[i]? = some x) (hy:l[j]? = some y) (W:World) (hs:zB W lv l) (hb:W.cell? ⟨bx,0,none⟩=some lv) :
 Calls prog 119 #[.int .i64 i,.int .i64 j,.pointer (some ⟨bx,0,none⟩)] W λe w'=>e=.returned (.int .i64 (Lib.compareBytes x.data.toList y.data.toList))∧∃q,w'=W.drewN q:=by
 have hi:i < l.length:=(zi.1 hx).1;have hj:j < l.length:=(zi.1 hy).1;obtain⟨a,c,rfl,hlc,hc,_,kM⟩:=hs;obtain⟨_,b,off,rfl,h0⟩:=kM i x hx;obtain⟨_,b',off',e,h1⟩:=kM j y hy;cases e;have hcmp:=Tryz.strings_Compare x y;have HC:=zh hcmp;unfold kI at hc;have hii:(i:Int) < l.length:=by omega
 have hji:(j:Int) < l.length:=by omega
 clear kM hx hy hcmp;generalize Lib.compareBytes x.data.toList y.data.toList=q at *;go_enter func119,ntmps119;go_wp2_with fail;go_quiet ((go_at_call 120;exact Calls.quiet_of_same (HC.out _)));go_wp2;go_ret;exact⟨rfl,_,rfl⟩
abbrev K8:=Lib.compareBytes
theorem oW:∀a:List UInt8,K8 a a=0
 | []=>rfl
 | x::a=>by
  show (if x < x then (-1:Int) else if x < x then 1 else K8 a a)=0;rw[ze (UInt8.lt_irrefl x),ze (UInt8.lt_irrefl x),oW a]
theorem oX:∀a b:List UInt8,K8 b a = - K8 a b
 | [],[]=>rfl
 | [],_::_=>rfl
 | _::_,[]=>rfl
 | x::a,y::b=>by
  show (if y < x then (-1:Int) else if x < y then 1 else K8 b a) = - (if x < y then (-1:Int) else if y < x then 1 else K8 a b);by_cases h1:x < y
  ·have h2:¬y < x:=λh=>UInt8.lt_irrefl _ (UInt8.lt_trans h1 h);rw[ze h2,zl h1,zl h1];rfl
  by_cases h2:y < x
  ·rw[zl h2,ze h1,zl h2]
  rw[ze h2,ze h1,ze h1,ze h2];exact oX a b
theorem oY:∀a b:List UInt8,K8 a b=0→a=b
 | [],[],_=>rfl
 | [],_::_,h=>by simp[K8,Lib.compareBytes] at h
 | _::_,[],h=>by simp[K8,Lib.compareBytes] at h
 | x::a,y::b,h=>by
  have h':(if x < y then (-1:Int) else if y < x then 1 else K8 a b)=0:=h;by_cases h1:x < y
  ·rw[zl h1] at h';omega
  by_cases h2:y < x
  ·rw[ze h1,zl h2] at h';omega
  rw[ze h1,ze h2] at h'
  have hxy:x=y:=by
   apply UInt8.toNat_inj.1;have q1:¬x.toNat < y.toNat:=λh=>h1 (UInt8.lt_iff_toNat_lt.2 h);have q2:¬y.toNat < x.toNat:=λh=>h2 (UInt8.lt_iff_toNat_lt.2 h);omega
  rw[hxy,oY a b h']
theorem lR:∀a b c:List UInt8,K8 a b < 0→K8 b c < 0→K8 a c < 0
 | [],[],_,h,_=>by simp[K8,Lib.compareBytes] at h
 | [],_::_,[],_,h=>by simp[K8,Lib.compareBytes] at h
 | [],_::_,_::_,_,_=>by simp[K8,Lib.compareBytes]
 | _::_,[],_,h,_=>by simp[K8,Lib.compareBytes] at h
 | _::_,_::_,[],_,h=>by simp[K8,Lib.compareBytes] at h
 | x::a,y::b,z::c,h,g=>by
  have h':(if x < y then (-1:Int) else if y < x then 1 else K8 a b) < 0:=h;have g':(if y < z then (-1:Int) else if z < y then 1 else K8 b c) < 0:=g;show (if x < z then (-1:Int) else if z < x then 1 else K8 a c) < 0;simp only[UInt8.lt_iff_toNat_lt] at *;by_cases h1:x.toNat < y.toNat
  ·by_cases g1:y.toNat < z.toNat
   ·rw[zl zo];omega
   by_cases g2:z.toNat < y.toNat
   ·rw[ze g1,zl g2] at g';omega
   rw[zl zo];omega
  by_cases h2:y.toNat < x.toNat
  ·rw[ze h1,zl h2] at h';omega
  rw[ze h1,ze h2] at h';by_cases g1:y.toNat < z.toNat
  ·rw[zl zo];omega
  by_cases g2:z.toNat < y.toNat
  ·rw[ze g1,zl g2] at g';omega
  rw[ze g1,ze g2] at g';rw[ze zo,ze zo];exact lR a b c h' g'
def ltS (a b:ByteArray):Bool:=decide (K8 a.data.toList b.data.toList < 0)
theorem ZP (a:ByteArray):ltS a a=false:=by simp[ltS,oW]
theorem QW (h:ltS a b=true) (g:ltS b c=true):ltS a c=true:=by
 simp only[ltS,zp] at *;exact lR _ _ _ h g
theorem fG (h:ltS a b=false) (g:ltS b a=false):a=b:=by
 simp only[ltS,decide_eq_false_iff_not] at *;have hf:=oX a.data.toList b.data.toList;exact bytes_inj (oY _ _ zo)
theorem BK (h:ltS a b=false) (g:ltS b c=false):ltS a c=false:=by
 cases hc:ltS a c with
 | false=>rfl
 | true=>
  exfalso
  cases hb:ltS b a with
  | true=>have:=QW hb hc;rw[g] at this;cases this
  | false=>
   have e:=fG h hb;subst e;rw[g] at hc;cases hc
theorem lS {α:Type} [Inhabited α] (enc:α→Value) (w:World) (blk off m:Nat) (dk:Array α) (os:Array Obj):Moved (λk=>k=blk) w (sortWorld enc w blk off m dk os):=by
 refine⟨rfl,rfl,rfl,?_,λk hk hne=>?_⟩
 ·simp[sortWorld,Go.Sort.grow,Go.Sort.putRow,Go.Sort.mapBlock,Go.Sort.ahead]
 simp only[sortWorld,Go.Sort.grow,Go.Sort.putRow,Go.Sort.mapBlock,Go.Sort.ahead];rw[Array.getElem?_append_left (by simpa using hk),Array.getElem?_modify,ze (λe=>hne e.symm)]
theorem cB {α:Type} (a:Array α) (n:Nat) (h:a.size=n):a.extract 0 n=a:=by subst h;simp
def encF {n:Nat} (x:Fin n):Value:=.int .i64 ((x.1:Nat):Int)
def cfF (l:List ByteArray) (x y:Fin l.length):Int:=K8 l[x].data.toList l[y].data.toList
theorem swo_cfF (l:List ByteArray):Go.Sort.SWO (ltOf (cfF l)) where
 irrefl x:=ZP l[x]
 trans x y z h g:=QW (a:=l[x]) (b:=l[y]) (c:=l[z]) h g
 ntrans x y z h g:=BK (a:=l[x]) (b:=l[y]) (c:=l[z]) h g
theorem zB.moved {S:Nat→Prop} {w w':World} {ks:List ByteArray} (h:zB w v ks) (hm:Moved S w w') (hS:∀a n c,v=.slice (some a) n c→¬S a.block):zB w' v ks:=by
 obtain⟨a,c,rfl,h2,h3,h4,h5⟩:=h;refine⟨a,c,rfl,h2,h3,h4,λi s hs=>?_⟩;obtain⟨hz,b,off,e,hc⟩:=h5 i s hs;subst e;exact⟨hz,b,off,rfl,hm.cell (p:=⟨b,off+i,none⟩) hc (hS ⟨b,off,none⟩ _ _ rfl)⟩
theorem sN (l:List ByteArray) (h0:0 < l.length) (hl:l.length≤1099511627776) (lv:Value) (bx blk:Nat) (w:World) (hs:zB w lv l) (hb:w.cell? ⟨bx,0,none⟩=some lv) (hbx:bx≠blk) (hlv:∀a n c,lv=.slice (some a) n c→a.block≠blk)
 (jK:∀j,j < l.length→w.cell? ⟨blk,j,none⟩=some (.int .i64 (j:Int))∧w.frozen? ⟨blk,j,none⟩=false) (hblk:blk < w.heap.size) (cap:Nat) :
 Calls prog 118 #[.slice (some ⟨blk,0,none⟩) l.length cap,.func (.func 119) #[] #[.pointer (some ⟨bx,0,none⟩)]] w λr w'=>
  r=.returned (.tuple #[])∧∃p:List (Fin l.length),p.Perm (List.finRange l.length)∧(∀(i j:Nat) x y,i < j→p[i]? = some x→p[j]? = some y→ltS l[y] l[x]=false)∧(∀(i:Nat) (x:Fin l.length),p[i]? = some x→w'.cell? ⟨blk,i,none⟩=some (.int .i64 ((x.1:Nat):Int)))∧Moved (λk=>k=blk) w w':=by
 have:Inhabited (Fin l.length):=⟨⟨0,h0⟩⟩;have eg:∀args w,(callFunc 119 args).run prog w=.ok (.enter 119 args) w:=enters_of func119 zk rfl;have hd:((List.finRange l.length).toArray).size=l.length:=by simp
 have hcmp:CmpLays1 prog 119 #[.pointer (some ⟨bx,0,none⟩)] encF (cfF l) blk 0 ((List.finRange l.length).toArray).size w:=by
  refine CmpReads.lays λm os dk hk x y=>?_;have hm:=lS (encF (n:=l.length)) w blk 0 m dk os;exact BJ l lv bx x.1 y.1 l[x] l[y] (za x.2) (za y.2) _ (hs.moved hm (λa n c e=>hlv a n c e)) (hm.cell hb hbx)
 have hH:Go.Sort.Holds (encF (n:=l.length)) w blk 0 (List.finRange l.length).toArray:=by
  intro j hj;rw[hd] at hj;rw[getElem!_pos _ j (by simpa using hj),Nat.zero_add];simpa [encF] using jK j hj
 have hcon:=Tryz.slices_SortFunc (encF (n:=l.length)) (λ_=>rfl) (cfF l) (swo_cfF l) 119 #[.pointer (some ⟨bx,0,none⟩)] blk 0 cap (List.finRange l.length).toArray w eg hcmp hH hblk (by rw[hd];omega);rw[hd] at hcon;refine hcon.mono ?_;rintro r w' ⟨rfl,d',n,os,hp,hsd,rfl⟩;obtain⟨hsz,_,hperm⟩:=hp;have hdn:d'.size=l.length:=hsz.trans hd;refine⟨rfl,d'.toList,?_,λi j x y hij hx hy=>?_,λi x hx=>?_,lS _ w blk 0 n d' os⟩
 ·have e1:d'.extract 0 l.length=d':=cB _ _ hdn;have e2:(List.finRange l.length).toArray.extract 0 l.length=(List.finRange l.length).toArray:=cB _ _ hd;rw[e1,e2] at hperm;simpa using hperm
 ·have hj:=(zi.1 hy).1;have hi:=(zi.1 hx).1;have h:=hsd i j (Nat.zero_le _) hij (by simpa [hdn] using hj);rw[getElem!_pos d' j (by simpa using hj),getElem!_pos d' i zp32] at h;have ex:d'[i]' zp32=x:=by have:=(zi.1 hx).2;simpa using this
  have ey:d'[j]'(by simpa using hj)=y:=by have:=(zi.1 hy).2;simpa using this
  rw[ex,ey] at h;exact h
 have hi:=(zi.1 hx).1;have h:=(Go.Proofs.holds_sortWorld (encF (n:=l.length)) w blk 0 n _ d' os hblk hH hsz i zp32).1;rw[getElem!_pos d' i zp32] at h;have ex:d'[i]' zp32=x:=by have:=(zi.1 hx).2;simpa using this
 rw[ex,Nat.zero_add] at h;exact h
end Go.Proofs.YtdjoffgkndncfaaGreat
