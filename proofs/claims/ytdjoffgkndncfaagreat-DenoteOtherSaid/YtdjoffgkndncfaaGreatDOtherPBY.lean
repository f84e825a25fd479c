/-Texts-/
import Derived.Test.YtdjoffgkndncfaaGreatDOtherPBX
import Derived.Test.YtdjoffgkndncfaaGreatDOtherPBV
set_option linter.unusedVariables false
set_option linter.unusedSimpArgs false
namespace Go.Proofs.YtdjoffgkndncfaaGreat
open Go Go.ChangeShapes Go.WideShapes Go.ChangeAt Go.RowKit Go.Joins Go.Deep
variable {t x:Tr} {b i c:Nat}
theorem sort_ok (h:JZ t=0):JZ (zP t)=0∧zP (zP t)=zP t∧(zP t).size=t.size:=by
 obtain⟨h1,h2⟩:=check_val.1 h;obtain⟨a,b⟩:=d8 _ t 0 (zr _) h2;exact⟨check_val.2 ⟨by omega,a⟩,LN _ _ 0 (zr _) a (wM _ t 0 (zr _) h2),b⟩
mutual
theorem tX {P:Tr→Prop} (hP:∀k n u s keys l,P (.mk k n u s keys l)→∀x∈l,P x):∀(t:Tr) (b i c:Nat) (x:Tr),P t→(vP b t)[i]? = some (c,x)→P x
 | .mk k n u s keys l,b,i,c,x,h,hi=>by
  simp only[vP] at hi
  cases i with
  | zero=>
   simp only[yb,ya,Prod.mk.injEq] at hi;obtain⟨_,rfl⟩:=hi;exact h
  | succ i=>
   simp only[xp] at hi;exact D7 hP l (b+1) i c x (hP k n u s keys l h) hi
theorem D7 {P:Tr→Prop} (hP:∀k n u s keys l,P (.mk k n u s keys l)→∀x∈l,P x):∀(l:List Tr) (b i c:Nat) (x:Tr),(∀y∈l,P y)→(JL b l)[i]? = some (c,x)→P x
 | [],b,i,c,x,h,hi=>by simp[JL] at hi
 | t::r,b,i,c,x,h,hi=>by
  simp only[JL] at hi;by_cases hn:i < (vP b t).length
  ·rw[qy hn] at hi;exact tX hP t b i c x (h t zx) hi
  rw[qs zo] at hi;exact D7 hP r b _ c x (λy hy=>h y (zj _ hy)) hi
end
theorem lC (h:okS t) (hi:(vP b t)[i]? = some (c,x)):okS x:=tX (λk n u s keys l h=>by rw[okS] at h;exact h.2.2.2.2) t b i c x h hi
theorem tY {K:Nat} (h:smT K t) (hi:(vP b t)[i]? = some (c,x)):smT K x:=tX (P:=smT K) (λk n u s keys l h=>by simp only[smT] at h;exact smL_iff.1 h.2) t b i c x h hi
theorem N2 {m:Nat} (h:t.size≤m) (hi:(vP b t)[i]? = some (c,x)):x.size≤m:=tX (P:=λt=>t.size≤m) (λk n u s keys l h x hx=>by have:=JC hx;simp only[Tr.size] at h;omega) t b i c x h hi
theorem A2 {D:List UInt8} {S0 was:Tr} {lv nn:Nat} {b:Bool} (hh:qM D S0=true) (hat:(vP 0 S0)[nn]? = some (lv,was)) (hb:b=true↔x=was):qM D (yQ x S0 (nn:Int)).1=b:=by
 have h2:=(AX x was lv S0 0 nn hat).2;by_cases h:x=was
 ·rw[h2.2 h,hh,hb.2 h]
 have hf:b=false:=by cases b with | false=>rfl | true=>exact absurd (hb.1 rfl) h
 rw[hf]
 cases hq:qM D (yQ x S0 (nn:Int)).1 with
 | false=>rfl
 | true=>exact absurd (h2.1 (C6 hq hh)) h
section
variable {w:World} {was:Tr} {k n u:Int} {s:ByteArray} {kv lv:Value}
theorem GR (h:jM w was (.agg #[.int .i64 k,.int .i64 n,.int .u64 u,.string s,kv,lv])) (hk:okS was) (hs:smT 60 was) {k':Int} (hk':kY k'):∃x,jM w x (.agg #[.int .i64 k',.int .i64 n,.int .u64 u,.string s,kv,lv])∧okS x:=by
 obtain⟨k0,n0,u0,s0,keys,l⟩:=was;simp only[jM] at h;obtain⟨hb,kv0,lv0,vs,e,h1,h2,h3⟩:=h;injection e with e;injection e with e;simp at e;obtain⟨rfl,rfl,rfl,rfl,rfl,rfl⟩:=e;refine⟨.mk k' n u s keys l,?_,by rw[okS] at hk⊢;exact hk⟩;simp only[jM];exact⟨⟨hk',hb.2.1,hb.2.2.1,hb.2.2.2⟩,_,_,vs,rfl,h1,h2,h3⟩
theorem N3 (h:jM w was (.agg #[.int .i64 k,.int .i64 n,.int .u64 u,.string s,kv,lv])) (hk:okS was) (hs:smT 60 was) {n':Int} (hn':kY n'):∃x,jM w x (.agg #[.int .i64 k,.int .i64 n',.int .u64 u,.string s,kv,lv])∧okS x:=by
 obtain⟨k0,n0,u0,s0,keys,l⟩:=was;simp only[jM] at h;obtain⟨hb,kv0,lv0,vs,e,h1,h2,h3⟩:=h;injection e with e;injection e with e;simp at e;obtain⟨rfl,rfl,rfl,rfl,rfl,rfl⟩:=e;refine⟨.mk k n' u s keys l,?_,by rw[okS] at hk⊢;exact hk⟩;simp only[jM];exact⟨⟨hb.1,hn',hb.2.2.1,hb.2.2.2⟩,_,_,vs,rfl,h1,h2,h3⟩
theorem GS (h:jM w was (.agg #[.int .i64 k,.int .i64 n,.int .u64 u,.string s,kv,lv])) (hk:okS was) (hs:smT 60 was):s.size≤60∧∃x,jM w x (.agg #[.int .i64 k,.int .i64 n,.int .u64 u,.string (s++⟨#[97]⟩),kv,lv])∧okS x:=by
 obtain⟨k0,n0,u0,s0,keys,l⟩:=was;simp only[jM] at h;obtain⟨hb,kv0,lv0,vs,e,h1,h2,h3⟩:=h;injection e with e;injection e with e;simp at e;obtain⟨rfl,rfl,rfl,rfl,rfl,rfl⟩:=e;simp only[smT] at hs;have hz:(s++(⟨#[97]⟩:ByteArray)).size=s.size+1:=by rw[xz];rfl
 refine⟨hs.1.1,.mk k n u (s++⟨#[97]⟩) keys l,?_,by rw[okS] at hk⊢;exact⟨by rw[hz];have:=hs.1.1;omega,hk.2⟩⟩;simp only[jM];exact⟨⟨hb.1,hb.2.1,hb.2.2.1,by unfold kI;rw[hz];have:=hs.1.1;omega⟩,_,_,vs,rfl,h1,h2,h3⟩
theorem GT (h:jM w was (.agg #[.int .i64 k,.int .i64 n,.int .u64 u,.string s,kv,lv])) (hk:okS was) (hz:was.size≤80):∃keys l,was=.mk k n u s keys l∧l.length≤80:=by
 obtain⟨k0,n0,u0,s0,keys,l⟩:=was;simp only[jM] at h;obtain⟨hb,kv0,lv0,vs,e,h1,h2,h3⟩:=h;injection e with e;injection e with e;simp at e;obtain⟨rfl,rfl,rfl,rfl,rfl,rfl⟩:=e;refine⟨keys,l,rfl,?_⟩;simp only[Tr.size] at hz
 have:∀l:List Tr,l.length≤zY l:=by
  intro l
  induction l with
  | nil=>simp
  | cons t r ih=>have:=t.size_pos;simp only[zz,zY];omega
 have:=this l;omega
theorem GU {vs:List Value} {lv':Value} {keys:List ByteArray} {l l':List Tr} (h:jM w (.mk k n u s keys l) (.agg #[.int .i64 k,.int .i64 n,.int .u64 u,.string s,kv,lv])) (hr:y9 w lv' vs) (hk:kZ w l' vs):jM w (.mk k n u s keys l') (.agg #[.int .i64 k,.int .i64 n,.int .u64 u,.string s,kv,lv']):=by
 simp only[jM] at h⊢;obtain⟨hb,kv0,lv0,vs0,e,h1,h2,h3⟩:=h;injection e with e;injection e with e;simp at e;obtain⟨rfl,rfl⟩:=e;exact⟨hb,_,_,vs,rfl,h1,hr,hk⟩
theorem N4 (q:Int) (hq:kY q) (w:World):jM w (.mk 3 q 0 ⟨#[]⟩ [] []) (.agg #[.int .i64 3,.int .i64 q,.int .u64 0,.string ⟨#[]⟩,.slice none 0 0,.slice none 0 0]):=by
 simp only[jM];exact⟨⟨by unfold kY;omega,hq,by unfold KG;omega,by unfold kI;decide⟩,_,_,[],rfl,zG.strs (zG.nil w 0) zp2,yM.rows (yM.nil w 0),rfl⟩
theorem N5 {keys:List ByteArray} {l:List Tr} {q:Int} (h:okS (.mk k n u s keys l)) (hl:l.length≤4095):okS (.mk k n u s keys (l++[.mk 3 q 0 ⟨#[]⟩ [] []])):=by
 rw[okS] at h⊢;refine⟨h.1,h.2.1,h.2.2.1,by simp;omega,λx hx=>?_⟩;rcases xf.1 hx with hx|hx
 ·exact h.2.2.2.2 x hx
 simp only[List.mem_singleton] at hx;subst hx;rw[okS];exact⟨by decide,by simp,by simp,by simp,by simp⟩
end
end Go.Proofs.YtdjoffgkndncfaaGreat
