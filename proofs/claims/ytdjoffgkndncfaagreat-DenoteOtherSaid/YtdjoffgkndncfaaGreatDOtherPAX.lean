/-Texts-/
import Derived.Test.YtdjoffgkndncfaaGreatDOtherPAS
import Derived.Test.YtdjoffgkndncfaaGreatDOtherPAW
set_option linter.unusedVariables false
set_option linter.unusedSimpArgs false
namespace Go.Proofs.YtdjoffgkndncfaaGreat
open Go Go.ChangeShapes Go.WideShapes Go.ChangeAt Go.RowKit Go.Joins Go.Deep
variable {t:Tr} {k n u at_ w typ pos par wid lim first:Int} {s a b:ByteArray} {d:List UInt8} {l:List ByteArray}
theorem l9 {α:Type} {l:List α} (h:l.length=0):l=[]:=List.length_eq_zero_iff.1 h
theorem bare_iff:yB t k n u s=true↔t=.mk k n u s [] []:=by
 unfold yB;simp only[zg,zp];obtain⟨k',n',u',s',keys,l⟩:=t;simp only[Tr.kind,Tr.fn,Tr.fu,Tr.fs,Tr.keys,Tr.kids,Tr.mk.injEq];constructor
 ·rintro ⟨⟨⟨⟨⟨rfl,rfl⟩,rfl⟩,rfl⟩,h1⟩,h2⟩;exact⟨rfl,rfl,rfl,rfl,l9 h1,l9 h2⟩
 rintro ⟨rfl,rfl,rfl,rfl,rfl,rfl⟩;exact⟨⟨⟨⟨⟨rfl,rfl⟩,rfl⟩,rfl⟩,rfl⟩,rfl⟩
theorem has_iff:ZI d at_ s=true↔0≤at_∧(s.size:Int)≤d.length - at_∧(d.drop at_.toNat).take s.size=s.data.toList:=by
 simp only[ZI,zg,zp,and_assoc]
theorem bN (s:ByteArray):(YG s).data.toList=s.data.toList++[0]:=by
 unfold YG;rw[ByteArray.data_append,Array.toList_append]
theorem bO (s:ByteArray):s.data.toList.length=s.size:=rfl
theorem d9 (h:vD s=0):(0:UInt8)∉s.data.toList:=by
 rw[sO] at h;by_cases hz:JI s=true
 ·rw[zl hz] at h;cases h
 unfold JI at hz;simpa using hz
theorem pK {X:List UInt8} {a b:List UInt8} (ha:X.take (a.length+1)=a++[0]) (hb:X.take (b.length+1)=b++[0]) (h0:(0:UInt8)∉b):¬a.length < b.length:=by
 intro hlt
 have h1:X[a.length]? = some 0:=by
  have:(X.take (a.length+1))[a.length]? = some 0:=by rw[ha];simp
  rw[List.getElem?_take] at this
  rwa [zl zo] at this
 have h2:(X.take (b.length+1))[a.length]? = some 0:=by
  rw[List.getElem?_take,zl zo];exact h1
 rw[hb,qy hlt] at h2;exact h0 (qd h2)
theorem wN (ka:vD a=0) (kb:vD b=0) (ha:ZI d at_ (YG a)=true) (hb:ZI d at_ (YG b)=true):a=b:=by
 obtain⟨_,_,ha⟩:=has_iff.1 ha;obtain⟨_,_,hb⟩:=has_iff.1 hb;rw[bN,YQ,← bO] at ha hb;have h1:=pK ha hb (d9 kb);have h2:=pK hb ha (d9 ka);have he:a.data.toList.length=b.data.toList.length:=by omega
 rw[he,hb] at ha;exact (bytes_inj (List.append_cancel_right ha)).symm
theorem DM (hz:a.size=b.size) (ha:ZI d at_ a=true) (hb:ZI d at_ b=true):a=b:=by
 obtain⟨_,_,ha⟩:=has_iff.1 ha;obtain⟨_,_,hb⟩:=has_iff.1 hb;rw[hz,hb] at ha;exact (bytes_inj ha).symm
theorem VG {sg un:Int} (h:vU d at_ w sg un t=true):t=.mk sg (JG d at_ w).1 0 EMB [] []∨t=.mk un 0 (k7 d at_ w).1 EMB [] []:=by
 unfold vU at h;split at h
 ·cases h
 split at h
 ·exact .inl (bare_iff.1 h)
 rw[zg] at h;exact .inr (bare_iff.1 h.2)
theorem near_or (typ:Int) (h:ZJ typ=true∨KM typ=true):typ=0∨typ=1∨typ=2∨typ=26∨typ=4∨typ=5∨typ=25∨typ=6∨typ=7:=by
 unfold ZJ KM at h;simp only[qv,zp] at h;omega
theorem mA (hn:ZJ typ=true∨KM typ=true) (h:qO d typ pos par wid at_ t=true) :
 (typ=0∧t=.mk 1 0 0 EMB [] [])∨(typ=1∧t=.mk 3 (JG d pos par).1 0 EMB [] [])∨(typ=2∧t=.mk 4 0 (k7 d pos par).1 EMB [] [])∨(typ=26∧t=.mk 2 (if (k7 d pos par).1=0 then 0 else 1) 0 EMB [] []) ∨
 (typ=4∧∃s,t=.mk 5 0 0 s [] []∧vD s=0∧ZI d at_ (YG s)=true)∨(typ=5∧∃s,t=.mk 6 0 0 s [] []∧(yF d (at_ - wid) wid).1=s.size∧ZI d at_ (YG s)=true)∨(typ=25∧∃s,t=.mk 7 0 0 s [] []∧(yF d (at_ - wid) wid).1=s.size∧ZI d at_ s=true) ∨
 (typ=6∧t=.mk 8 (JG d at_ wid).1 0 EMB [] [])∨(typ=7∧t=.mk 9 0 (k7 d at_ wid).1 EMB [] []):=by
 rcases near_or typ hn with rfl|rfl|rfl|rfl|rfl|rfl|rfl|rfl|rfl
 ·rw[show qO d 0 pos par wid at_ t=dQ d pos par t from rfl] at h;unfold dQ at h;rw[zg] at h;exact .inl ⟨rfl,bare_iff.1 h.2⟩
 ·rw[show qO d 1 pos par wid at_ t=sP d pos par t from rfl] at h;unfold sP at h;rw[zg,zp] at h;rcases VG h.2 with e|e
  ·exact .inr (.inl ⟨rfl,e⟩)
  rw[e] at h;exact absurd h.1 (by simp[Tr.kind])
 ·rw[show qO d 2 pos par wid at_ t=dR d pos par t from rfl] at h;unfold dR at h;rw[zg,zp] at h;rcases VG h.2 with e|e
  ·rw[e] at h;exact absurd h.1 (by simp[Tr.kind])
  exact .inr (.inr (.inl ⟨rfl,e⟩))
 ·rw[show qO d 26 pos par wid at_ t=gQ d pos par t from rfl] at h;unfold gQ at h;rw[zg] at h;exact .inr (.inr (.inr (.inl ⟨rfl,bare_iff.1 h.2⟩)))
 ·rw[show qO d 4 pos par wid at_ t=fJ d at_ t from rfl] at h;unfold fJ at h;simp only[zg,zp] at h;exact .inr (.inr (.inr (.inr (.inl ⟨rfl,_,bare_iff.1 h.1.1,h.1.2,h.2⟩))))
 ·rw[show qO d 5 pos par wid at_ t=VY d 5 wid at_ t from rfl] at h;unfold VY at h;simp only[zg,zp,if_true] at h;exact .inr (.inr (.inr (.inr (.inr (.inl ⟨rfl,_,bare_iff.1 h.1.1.1.1,h.1.2,h.2⟩)))))
 ·rw[show qO d 25 pos par wid at_ t=VY d 25 wid at_ t from rfl] at h;unfold VY at h;rw[ze zd,ze zd] at h;simp only[zg,zp] at h;exact .inr (.inr (.inr (.inr (.inr (.inr (.inl ⟨rfl,_,bare_iff.1 h.1.1.1.1,h.1.2,h.2⟩))))))
 ·rw[show qO d 6 pos par wid at_ t=ZA d 6 wid at_ t from rfl] at h;unfold ZA at h;rw[zl rfl] at h;simp only[zg,zp] at h;rcases VG h.2 with e|e
  ·exact .inr (.inr (.inr (.inr (.inr (.inr (.inr (.inl ⟨rfl,e⟩)))))))
  rw[e] at h;exact absurd h.1.1 (by simp[Tr.kind])
 rw[show qO d 7 pos par wid at_ t=ZA d 7 wid at_ t from rfl] at h;unfold ZA at h;rw[ze zd] at h;simp only[zg,zp] at h;rcases VG h.2 with e|e
 ·rw[e] at h;exact absurd h.1.1 (by simp[Tr.kind])
 exact .inr (.inr (.inr (.inr (.inr (.inr (.inr (.inr ⟨rfl,e⟩)))))))
theorem pL {u:Tr} (hn:ZJ typ=true∨KM typ=true) (h:qO d typ pos par wid at_ t=true) (g:qO d typ pos par wid at_ u=true):t=u:=by
 have hc:=mA hn h;have gc:=mA hn g;rcases hc with ⟨e,ht⟩|⟨e,ht⟩|⟨e,ht⟩|⟨e,ht⟩|⟨e,a,ht,h1,h2⟩|⟨e,a,ht,h1,h2⟩|⟨e,a,ht,h1,h2⟩|⟨e,ht⟩|⟨e,ht⟩ <;> rcases gc with ⟨e',hu⟩|⟨e',hu⟩|⟨e',hu⟩|⟨e',hu⟩|⟨e',b,hu,g1,g2⟩|⟨e',b,hu,g1,g2⟩|⟨e',b,hu,g1,g2⟩|⟨e',hu⟩|⟨e',hu⟩ <;>
 first
 | (exfalso;omega)
 | (rw[ht,hu];done)
 | (rw[ht,hu,wN h1 g1 h2 g2])
 | (rw[ht,hu,DM zo h2 g2])
 | (have hz:a.size=b.size:=by omega
    have:=DM (by rw[YQ,YQ,hz]) h2 g2;have h3:(YG a).data.toList=(YG b).data.toList:=(by rw[this]);rw[bN,bN] at h3
    rw[ht,hu,bytes_inj (List.append_cancel_right h3)])
structure ListP (d:List UInt8) (typ w at_:Int) (k n u:Int) (s:ByteArray) (keys:List ByteArray) (l:List Tr):Prop where
 kind:k=(kA typ).1
 zn:n=0
 zu:u=0
 zs:s=EMB
 nokeys:(kA typ).1≠17→keys=[]
 fix:at_ % w=0
 room:at_+l.length*w+(if vK (kA typ).1=true then (l.length:Int) else 0)≤d.length
 many:if (kA typ).2=0 then (yF d (at_ - w) w).2=true∧(yF d (at_ - w) w).1=l.length else (l.length:Int)=(kA typ).2
 table:(kA typ).1=17→0≤at_ - 3*w∧keys.length=l.length∧QY d (at_ - 3*w) w keys=true
theorem front_iff {keys:List ByteArray} {l:List Tr}:lW d typ w at_ (.mk k n u s keys l)=true↔ListP d typ w at_ k n u s keys l:=by
 simp only[lW,zg,zp,qv];constructor
 ·rintro ⟨⟨⟨⟨⟨⟨⟨⟨h1,h2⟩,h3⟩,h4⟩,h5⟩,h6⟩,h7⟩,h8⟩,h9⟩;refine⟨h1,h2,h3,h4,λhk=>l9 (h5.resolve_left hk),h6,h7,?_,λhk=>?_⟩
  ·split
   ·rename_i hz;rw[zl hz,zg,zp] at h8;exact h8
   rename_i hz;rw[ze hz,zp] at h8;exact h8
  rw[zl hk,zg,zg,zp,zp,and_assoc] at h9;exact h9
 rintro ⟨h1,h2,h3,h4,h5,h6,h7,h8,h9⟩;refine⟨⟨⟨⟨⟨⟨⟨⟨h1,h2⟩,h3⟩,h4⟩,?_⟩,h6⟩,h7⟩,?_⟩,?_⟩
 ·by_cases hk:(kA typ).1=17
  ·exact .inl hk
  exact .inr (by rw[h5 hk];rfl)
 ·by_cases hz:(kA typ).2=0
  ·rw[zl hz] at h8⊢;rw[zg,zp];exact h8
  rw[ze hz] at h8⊢;rw[zp];exact h8
 by_cases hk:(kA typ).1=17
 ·rw[zl hk,zg,zg,zp,zp,and_assoc];exact h9 hk
 rw[ze hk]
theorem kids_iff {d:List UInt8} {typ w at_ n:Int}:∀{l:List Tr} {i:Nat},JD d typ w at_ n i l=true↔∀j x,l[j]? = some x→(vY d typ w at_ n (i+j)).2.2=0∧JY d (vY d typ w at_ n (i+j)).1 (at_+((i+j:Nat):Int)*w) w (vY d typ w at_ n (i+j)).2.1 (JU typ w at_) x=true
 | [],i=>by simp[JD]
 | x::r,i=>by
  simp only[JD,zg,zp];rw[kids_iff (l:=r) (i:=i+1)];constructor
  ·exact zb39
  exact zb40
theorem cR (h:JY d typ pos par wid lim t=true) :
 (isW par=true∧isW wid=true∧Ft.legalB typ=true)∧((ZJ typ=true∧qO d typ pos par wid 0 t=true) ∨
  (ZJ typ=false∧cO d typ pos par wid lim=true∧KM typ=true∧qO d typ pos par wid (pos - (yF d pos par).1) t=true) ∨
  (ZJ typ=false∧cO d typ pos par wid lim=true∧KM typ=false∧JK d typ wid (pos - (yF d pos par).1) t=true)):=by
 rw[bK] at h;rw[Z6] at h
 cases hg:(isW par && isW wid && Ft.legalB typ) with
 | false=>rw[zl hg] at h;cases h
 | true=>
  rw[ze (by rw[hg];decide)] at h;simp only[zg] at hg;refine⟨⟨hg.1.1,hg.1.2,hg.2⟩,?_⟩
  cases hn:ZJ typ with
  | true=>rw[zl hn] at h;exact .inl ⟨rfl,h⟩
  | false=>
   rw[ze (by rw[hn];decide)] at h
   cases hf:cO d typ pos par wid lim with
   | false=>rw[zl hf] at h;cases h
   | true=>
    rw[ze (by rw[hf];decide)] at h
    cases ht:KM typ with
    | true=>rw[zl ht] at h;exact .inr (.inl ⟨rfl,rfl,rfl,h⟩)
    | false=>rw[ze (by rw[ht];decide)] at h;exact .inr (.inr ⟨rfl,rfl,rfl,h⟩)
theorem names_iff {d:List UInt8} {w at_:Int}:∀{l:List ByteArray} {i:Nat},Z5 d w at_ i l=true↔∀j x,l[j]? = some x→VD d (at_+((i+j:Nat):Int)*w) w (at_ - w) x=true
 | [],i=>by simp[Z5]
 | x::r,i=>by
  simp only[Z5,zg];rw[names_iff (l:=r) (i:=i+1)];constructor
  ·exact zb39
  exact zb40
theorem wO (h:QY d first w l=true):dW l=true∧YW d (yF d (first+w) w).1 (first - (yF d first w).1) l=true:=by
 unfold QY at h;simp only[zg] at h;exact⟨h.1.2,h.2⟩
theorem mB (h:YW d w at_ l=true):(yF d (at_ - w) w).1=l.length∧Z5 d w at_ 0 l=true:=by
 unfold YW at h;simp only[zg,zp] at h;exact⟨h.1.2.2,h.2⟩
theorem gV {k:ByteArray} (h:VD d pos w lim k=true):vD k=0∧ZI d (pos - (yF d pos w).1) (YG k)=true:=by
 unfold VD at h;simp only[zg,zp] at h;exact⟨h.1.2,h.2⟩
theorem pM {α:Type} {a b:List α} (hl:a.length=b.length) (h:∀(i:Nat) (x y:α),a[i]? = some x→b[i]? = some y→x=y):a=b:=by
 refine List.ext_getElem? λi=>?_;rcases Nat.lt_or_ge i a.length with hi|hi
 ·rw[za hi,za (hl ▸ hi)];exact ql some (h i _ _ (za hi) (za (hl ▸ hi)))
 rw[List.getElem?_eq_none hi,List.getElem?_eq_none (hl ▸ hi)]
theorem E5 {a b:List ByteArray} (ha:QY d first w a=true) (hb:QY d first w b=true):a=b:=by
 obtain⟨_,ha⟩:=wO ha;obtain⟨_,hb⟩:=wO hb;obtain⟨la,ha⟩:=mB ha;obtain⟨lb,hb⟩:=mB hb;refine pM zo λi x y hx hy=>?_;obtain⟨k1,h1⟩:=gV (names_iff.1 ha i x hx);obtain⟨k2,h2⟩:=gV (names_iff.1 hb i y hy);exact wN k1 k2 h1 h2
theorem E6 (d:List UInt8):∀(m:Nat) (t u:Tr) (typ pos par wid lim:Int),t.size≤m→JY d typ pos par wid lim t=true→JY d typ pos par wid lim u=true→t=u:=by
 intro m
 induction m with
 | zero=>intro t u typ pos par wid lim h;have:=t.size_pos;omega
 | succ m ih=>
  intro t u typ pos par wid lim h hs gs;obtain⟨_,hc⟩:=cR hs;obtain⟨_,gc⟩:=cR gs;rcases hc with ⟨hn,hl⟩|⟨hn,hf,ht,hl⟩|⟨hn,hf,ht,hl⟩<;>rcases gc with ⟨gn,gl⟩|⟨gn,gf,gt,gl⟩|⟨gn,gf,gt,gl⟩<;>first|(rw[hn] at gn;cases gn;done)|(rw[ht] at gt;cases gt;done)|skip
  ·exact pL (.inl hn) hl gl
  ·exact pL (.inr ht) hl gl
  obtain⟨k,n,q,s,keys,l⟩:=t;obtain⟨k',n',q',s',keys',l'⟩:=u;simp only[JK,Tr.kids,zg] at hl gl;obtain⟨hp,hk⟩:=hl;obtain⟨gp,gk⟩:=gl;have hp:=front_iff.1 hp;have gp:=front_iff.1 gp
  have kE:l.length=l'.length:=by
   have h1:=hp.many;have h2:=gp.many;split at h1
   ·rename_i hz;rw[zl hz] at h2;have:=h1.2;have:=h2.2;omega
   rename_i hz;rw[ze hz] at h2;omega
  have vC:keys=keys':=by
   by_cases h17:(kA typ).1=17
   ·exact E5 (hp.table h17).2.2 (gp.table h17).2.2
   rw[hp.nokeys h17,gp.nokeys h17]
  have zN:l=l':=by
   refine pM kE λi x y hx hy=>?_;have h1:=(kids_iff.1 hk i x hx).2;have h2:=(kids_iff.1 gk i y hy).2;rw[← kE] at h2;refine ih x y _ _ _ _ _ ?_ h1 h2;have:=JC (qd hx);simp only[Tr.size] at h;omega
  rw[hp.kind,gp.kind,hp.zn,gp.zn,hp.zu,gp.zu,hp.zs,gp.zs,vC,zN]
end Go.Proofs.YtdjoffgkndncfaaGreat
