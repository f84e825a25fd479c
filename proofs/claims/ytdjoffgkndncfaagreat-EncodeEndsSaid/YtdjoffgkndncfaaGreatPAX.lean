/-
  Texts of the proof.
-/
import Derived.Test.YtdjoffgkndncfaaGreatPAS
import Derived.Test.YtdjoffgkndncfaaGreatPAW
set_option linter.unusedVariables false
set_option linter.unusedSimpArgs false
namespace Go.Proofs.YtdjoffgkndncfaaGreat
open Go Go.ChangeShapes Go.WideShapes Go.ChangeAt Go.RowKit Go.Joins Go.Deep
theorem len_zero {α:Type} {l:List α} (h:l.length=0):l=[]:=List.length_eq_zero_iff.1 h
theorem bare_iff {t:Tr} {k n u:Int} {s:ByteArray}:bareF t k n u s=true↔t=.mk k n u s [] []:=by
 unfold bareF
 simp only[Bool.and_eq_true,decide_eq_true_eq]
 obtain⟨k',n',u',s',keys,l⟩:=t
 simp only[Tr.kind,Tr.fn,Tr.fu,Tr.fs,Tr.keys,Tr.kids,Tr.mk.injEq]
 constructor
 ·rintro ⟨⟨⟨⟨⟨rfl,rfl⟩,rfl⟩,rfl⟩,h1⟩,h2⟩
  exact⟨rfl,rfl,rfl,rfl,len_zero h1,len_zero h2⟩
 ·rintro ⟨rfl,rfl,rfl,rfl,rfl,rfl⟩
  exact⟨⟨⟨⟨⟨rfl,rfl⟩,rfl⟩,rfl⟩,rfl⟩,rfl⟩
theorem has_iff {d:List UInt8} {at_:Int} {s:ByteArray}:hasF d at_ s=true↔0≤at_∧(s.size:Int)≤d.length - at_∧(d.drop at_.toNat).take s.size=s.data.toList:=by
 simp only[hasF,Bool.and_eq_true,decide_eq_true_eq,and_assoc]
theorem ends_list (s:ByteArray):(ends s).data.toList=s.data.toList++[0]:=by
 unfold ends
 rw[ByteArray.data_append,Array.toList_append]
theorem size_list (s:ByteArray):s.data.toList.length=s.size:=rfl
theorem key_zero {s:ByteArray} (h:keyE s=0):(0:UInt8)∉s.data.toList:=by
 rw[keyE_eq] at h
 by_cases hz:zeroB s=true
 ·rw[if_pos hz] at h;cases h
 ·unfold zeroB at hz;simpa using hz
theorem number_iff {d:List UInt8} {at_ w sg un:Int} {t:Tr} (h:numberF d at_ w sg un t=true):t=.mk sg (loadIntF d at_ w).1 0 EMB [] []∨t=.mk un 0 (loadF d at_ w).1 EMB [] []:=by
 unfold numberF at h
 split at h
 ·cases h
 split at h
 ·exact .inl (bare_iff.1 h)
 ·rw[Bool.and_eq_true] at h;exact .inr (bare_iff.1 h.2)
def kindT (typ:Int):Int:=if typ=0 then 1 else if typ=1 then 3 else if typ=2 then 4 else if typ=26 then 2 else if typ=4 then 5 else if typ=5 then 6 else if typ=25 then 7 else if typ=6 then 8 else if typ=7 then 9 else (shapeF typ).1
theorem near_or (typ:Int) (h:nearT typ=true∨farT typ=true):typ=0∨typ=1∨typ=2∨typ=26∨typ=4∨typ=5∨typ=25∨typ=6∨typ=7:=by
 unfold nearT farT at h
 simp only[Bool.or_eq_true,decide_eq_true_eq] at h
 omega
theorem look_cases {d:List UInt8} {typ pos par wid at_:Int} {t:Tr} (hn:nearT typ=true∨farT typ=true) (h:lookF d typ pos par wid at_ t=true) :
 (typ=0∧t=.mk 1 0 0 EMB [] [])∨(typ=1∧t=.mk 3 (loadIntF d pos par).1 0 EMB [] [])∨(typ=2∧t=.mk 4 0 (loadF d pos par).1 EMB [] [])∨(typ=26∧t=.mk 2 (if (loadF d pos par).1=0 then 0 else 1) 0 EMB [] []) ∨
 (typ=4∧∃s,t=.mk 5 0 0 s [] []∧keyE s=0∧hasF d at_ (ends s)=true)∨(typ=5∧∃s,t=.mk 6 0 0 s [] []∧(numF d (at_ - wid) wid).1=s.size∧hasF d at_ (ends s)=true)∨(typ=25∧∃s,t=.mk 7 0 0 s [] []∧(numF d (at_ - wid) wid).1=s.size∧hasF d at_ s=true) ∨
 (typ=6∧t=.mk 8 (loadIntF d at_ wid).1 0 EMB [] [])∨(typ=7∧t=.mk 9 0 (loadF d at_ wid).1 EMB [] []):=by
 rcases near_or typ hn with rfl|rfl|rfl|rfl|rfl|rfl|rfl|rfl|rfl
 ·rw[show lookF d 0 pos par wid at_ t=nullF d pos par t from rfl] at h
  unfold nullF at h
  rw[Bool.and_eq_true] at h
  exact .inl ⟨rfl,bare_iff.1 h.2⟩
 ·rw[show lookF d 1 pos par wid at_ t=intF d pos par t from rfl] at h
  unfold intF at h
  rw[Bool.and_eq_true,decide_eq_true_eq] at h
  rcases number_iff h.2 with e|e
  ·exact .inr (.inl ⟨rfl,e⟩)
  ·rw[e] at h;exact absurd h.1 (by simp[Tr.kind])
 ·rw[show lookF d 2 pos par wid at_ t=uintF d pos par t from rfl] at h
  unfold uintF at h
  rw[Bool.and_eq_true,decide_eq_true_eq] at h
  rcases number_iff h.2 with e|e
  ·rw[e] at h;exact absurd h.1 (by simp[Tr.kind])
  ·exact .inr (.inr (.inl ⟨rfl,e⟩))
 ·rw[show lookF d 26 pos par wid at_ t=boolF d pos par t from rfl] at h
  unfold boolF at h
  rw[Bool.and_eq_true] at h
  exact .inr (.inr (.inr (.inl ⟨rfl,bare_iff.1 h.2⟩)))
 ·rw[show lookF d 4 pos par wid at_ t=keyF d at_ t from rfl] at h
  unfold keyF at h
  simp only[Bool.and_eq_true,decide_eq_true_eq] at h
  exact .inr (.inr (.inr (.inr (.inl ⟨rfl,_,bare_iff.1 h.1.1,h.1.2,h.2⟩))))
 ·rw[show lookF d 5 pos par wid at_ t=textF d 5 wid at_ t from rfl] at h
  unfold textF at h
  simp only[Bool.and_eq_true,decide_eq_true_eq,if_true] at h
  exact .inr (.inr (.inr (.inr (.inr (.inl ⟨rfl,_,bare_iff.1 h.1.1.1.1,h.1.2,h.2⟩)))))
 ·rw[show lookF d 25 pos par wid at_ t=textF d 25 wid at_ t from rfl] at h
  unfold textF at h
  rw[if_neg (by decide),if_neg (by decide)] at h
  simp only[Bool.and_eq_true,decide_eq_true_eq] at h
  exact .inr (.inr (.inr (.inr (.inr (.inr (.inl ⟨rfl,_,bare_iff.1 h.1.1.1.1,h.1.2,h.2⟩))))))
 ·rw[show lookF d 6 pos par wid at_ t=apartF d 6 wid at_ t from rfl] at h
  unfold apartF at h
  rw[if_pos rfl] at h
  simp only[Bool.and_eq_true,decide_eq_true_eq] at h
  rcases number_iff h.2 with e|e
  ·exact .inr (.inr (.inr (.inr (.inr (.inr (.inr (.inl ⟨rfl,e⟩)))))))
  ·rw[e] at h;exact absurd h.1.1 (by simp[Tr.kind])
 ·rw[show lookF d 7 pos par wid at_ t=apartF d 7 wid at_ t from rfl] at h
  unfold apartF at h
  rw[if_neg (by decide)] at h
  simp only[Bool.and_eq_true,decide_eq_true_eq] at h
  rcases number_iff h.2 with e|e
  ·rw[e] at h;exact absurd h.1.1 (by simp[Tr.kind])
  ·exact .inr (.inr (.inr (.inr (.inr (.inr (.inr (.inr ⟨rfl,e⟩)))))))
theorem look_kind {d:List UInt8} {typ pos par wid at_:Int} {t:Tr} (hn:nearT typ=true∨farT typ=true) (h:lookF d typ pos par wid at_ t=true):t.kind=kindT typ:=by
 rcases look_cases hn h with ⟨rfl,ht⟩|⟨rfl,ht⟩|⟨rfl,ht⟩|⟨rfl,ht⟩|⟨rfl,a,ht,h1,h2⟩|⟨rfl,a,ht,h1,h2⟩|⟨rfl,a,ht,h1,h2⟩|⟨rfl,ht⟩|⟨rfl,ht⟩<;>(rw[ht];rfl)
structure ListP (d:List UInt8) (typ w at_:Int) (k n u:Int) (s:ByteArray) (keys:List ByteArray) (l:List Tr):Prop where
 kind:k=(shapeF typ).1
 zn:n=0
 zu:u=0
 zs:s=EMB
 nokeys:(shapeF typ).1≠17→keys=[]
 fix:at_ % w=0
 room:at_+l.length*w+(if taggedB (shapeF typ).1=true then (l.length:Int) else 0)≤d.length
 many:if (shapeF typ).2=0 then (numF d (at_ - w) w).2=true∧(numF d (at_ - w) w).1=l.length else (l.length:Int)=(shapeF typ).2
 table:(shapeF typ).1=17→0≤at_ - 3*w∧keys.length=l.length∧keysF d (at_ - 3*w) w keys=true
theorem front_iff {d:List UInt8} {typ w at_ k n u:Int} {s:ByteArray} {keys:List ByteArray} {l:List Tr}:frontF d typ w at_ (.mk k n u s keys l)=true↔ListP d typ w at_ k n u s keys l:=by
 simp only[frontF,Bool.and_eq_true,decide_eq_true_eq,Bool.or_eq_true]
 constructor
 ·rintro ⟨⟨⟨⟨⟨⟨⟨⟨h1,h2⟩,h3⟩,h4⟩,h5⟩,h6⟩,h7⟩,h8⟩,h9⟩
  refine⟨h1,h2,h3,h4,fun hk=>len_zero (h5.resolve_left hk),h6,h7,?_,fun hk=>?_⟩
  ·split
   ·rename_i hz
    rw[if_pos hz,Bool.and_eq_true,decide_eq_true_eq] at h8;exact h8
   ·rename_i hz
    rw[if_neg hz,decide_eq_true_eq] at h8;exact h8
  ·rw[if_pos hk,Bool.and_eq_true,Bool.and_eq_true,decide_eq_true_eq,decide_eq_true_eq,and_assoc] at h9;exact h9
 ·rintro ⟨h1,h2,h3,h4,h5,h6,h7,h8,h9⟩
  refine⟨⟨⟨⟨⟨⟨⟨⟨h1,h2⟩,h3⟩,h4⟩,?_⟩,h6⟩,h7⟩,?_⟩,?_⟩
  ·by_cases hk:(shapeF typ).1=17
   ·exact .inl hk
   ·exact .inr (by rw[h5 hk];rfl)
  ·by_cases hz:(shapeF typ).2=0
   ·rw[if_pos hz] at h8⊢;rw[Bool.and_eq_true,decide_eq_true_eq];exact h8
   ·rw[if_neg hz] at h8⊢;rw[decide_eq_true_eq];exact h8
  ·by_cases hk:(shapeF typ).1=17
   ·rw[if_pos hk,Bool.and_eq_true,Bool.and_eq_true,decide_eq_true_eq,decide_eq_true_eq,and_assoc];exact h9 hk
   ·rw[if_neg hk]
theorem kids_iff {d:List UInt8} {typ w at_ n:Int}:∀{l:List Tr} {i:Nat},kidsF d typ w at_ n i l=true↔∀j x,l[j]? = some x→(elemOf d typ w at_ n (i+j)).2.2=0∧saysF d (elemOf d typ w at_ n (i+j)).1 (at_+((i+j:Nat):Int)*w) w (elemOf d typ w at_ n (i+j)).2.1 (firstF typ w at_) x=true
 | [],i=>by simp[kidsF]
 | x::r,i=>by
  simp only[kidsF,Bool.and_eq_true,decide_eq_true_eq]
  rw[kids_iff (l:=r) (i:=i+1)]
  constructor
  ·rintro ⟨h,hr⟩ j y hy
   cases j with
   | zero=>simp only[List.getElem?_cons_zero,Option.some.injEq] at hy;subst hy;exact h
   | succ j=>
    simp only[List.getElem?_cons_succ] at hy
    have:=hr j y hy
    rw[show i+(j+1)=i+1+j by omega];exact this
  ·intro h
   refine⟨h 0 x rfl,fun j y hy=>?_⟩
   have:=h (j+1) y (by simpa using hy)
   rw[show i+(j+1)=i+1+j by omega] at this;exact this
theorem says_cases {d:List UInt8} {typ pos par wid lim:Int} {t:Tr} (h:saysF d typ pos par wid lim t=true) :
 (isW par=true∧isW wid=true∧Ft.legalB typ=true)∧((nearT typ=true∧lookF d typ pos par wid 0 t=true) ∨
  (nearT typ=false∧farB d typ pos par wid lim=true∧farT typ=true∧lookF d typ pos par wid (pos - (numF d pos par).1) t=true) ∨
  (nearT typ=false∧farB d typ pos par wid lim=true∧farT typ=false∧listF d typ wid (pos - (numF d pos par).1) t=true)):=by
 rw[says_eq] at h
 rw[inline_near] at h
 cases hg:(isW par && isW wid && Ft.legalB typ) with
 | false=>rw[if_pos hg] at h;cases h
 | true=>
  rw[if_neg (by rw[hg];decide)] at h
  simp only[Bool.and_eq_true] at hg
  refine⟨⟨hg.1.1,hg.1.2,hg.2⟩,?_⟩
  cases hn:nearT typ with
  | true=>rw[if_pos hn] at h;exact .inl ⟨rfl,h⟩
  | false=>
   rw[if_neg (by rw[hn];decide)] at h
   cases hf:farB d typ pos par wid lim with
   | false=>rw[if_pos hf] at h;cases h
   | true=>
    rw[if_neg (by rw[hf];decide)] at h
    cases ht:farT typ with
    | true=>rw[if_pos ht] at h;exact .inr (.inl ⟨rfl,rfl,rfl,h⟩)
    | false=>rw[if_neg (by rw[ht];decide)] at h;exact .inr (.inr ⟨rfl,rfl,rfl,h⟩)
theorem names_iff {d:List UInt8} {w at_:Int}:∀{l:List ByteArray} {i:Nat},nameKids d w at_ i l=true↔∀j x,l[j]? = some x→keySays d (at_+((i+j:Nat):Int)*w) w (at_ - w) x=true
 | [],i=>by simp[nameKids]
 | x::r,i=>by
  simp only[nameKids,Bool.and_eq_true]
  rw[names_iff (l:=r) (i:=i+1)]
  constructor
  ·rintro ⟨h,hr⟩ j y hy
   cases j with
   | zero=>simp only[List.getElem?_cons_zero,Option.some.injEq] at hy;subst hy;exact h
   | succ j=>
    simp only[List.getElem?_cons_succ] at hy
    have:=hr j y hy
    rw[show i+(j+1)=i+1+j by omega];exact this
  ·intro h
   refine⟨h 0 x rfl,fun j y hy=>?_⟩
   have:=h (j+1) y (by simpa using hy)
   rw[show i+(j+1)=i+1+j by omega] at this;exact this
theorem legal_range' (t:Int) (h:Ft.legalB t=true):0≤t∧t≤36:=Ft.legal_range (t:=t) h
theorem kind_list {t:Int} (hn:nearT t=false) (hf:farT t=false):kindT t=(shapeF t).1:=by
 unfold nearT at hn
 unfold farT at hf
 simp only[Bool.or_eq_false_iff,decide_eq_false_iff_not] at hn hf
 unfold kindT
 rw[if_neg hn.1.1.1,if_neg hn.1.1.2,if_neg hn.1.2,if_neg hn.2,if_neg hf.1.1.1.1,if_neg hf.1.1.1.2,if_neg hf.1.1.2,if_neg hf.1.2,if_neg hf.2]
end Go.Proofs.YtdjoffgkndncfaaGreat
