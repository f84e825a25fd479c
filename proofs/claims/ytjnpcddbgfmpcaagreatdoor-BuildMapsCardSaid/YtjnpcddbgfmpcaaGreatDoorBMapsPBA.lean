/-
  Texts of the proof.
-/
import Derived.Test.YtjnpcddbgfmpcaaGreatDoorBMapsPAV
import Derived.Test.YtjnpcddbgfmpcaaGreatDoorBMapsPAZ
set_option linter.unusedVariables false
set_option linter.unusedSimpArgs false
namespace Go.Proofs.YtjnpcddbgfmpcaaGreatDoor
open Go Go.ChangeShapes Go.WideShapes Go.ChangeAt Go.RowKit Go.Joins Go.Deep
theorem bF {α:Type} {l:List α} (h:l.length=0):l=[]:=List.length_eq_zero_iff.1 h
theorem bare_iff {t:Tr} {k n u:Int} {s:ByteArray}:YO t k n u s=true↔t=.mk k n u s [] []:=by
 unfold YO
 simp only[Bool.and_eq_true,decide_eq_true_eq]
 obtain⟨k',n',u',s',keys,l⟩:=t
 simp only[Tr.kind,Tr.fn,Tr.fu,Tr.fs,Tr.keys,Tr.kids,Tr.mk.injEq]
 constructor
 ·rintro ⟨⟨⟨⟨⟨rfl,rfl⟩,rfl⟩,rfl⟩,h1⟩,h2⟩
  exact⟨rfl,rfl,rfl,rfl,bF h1,bF h2⟩
 ·rintro ⟨rfl,rfl,rfl,rfl,rfl,rfl⟩
  exact⟨⟨⟨⟨⟨rfl,rfl⟩,rfl⟩,rfl⟩,rfl⟩,rfl⟩
theorem has_iff {d:List UInt8} {at_:Int} {s:ByteArray}:bB d at_ s=true↔0≤at_∧(s.size:Int)≤d.length - at_∧(d.drop at_.toNat).take s.size=s.data.toList:=by
 simp only[bB,Bool.and_eq_true,decide_eq_true_eq,and_assoc]
theorem oV (s:ByteArray):(YG s).data.toList=s.data.toList++[0]:=by
 unfold YG
 rw[ByteArray.data_append,Array.toList_append]
theorem VG (s:ByteArray):s.data.toList.length=s.size:=rfl
theorem hQ {s:ByteArray} (h:yI s=0):(0:UInt8)∉s.data.toList:=by
 rw[keyE_eq] at h
 by_cases hz:nY s=true
 ·rw[if_pos hz] at h;cases h
 ·unfold nY at hz;simpa using hz
theorem KT {d:List UInt8} {at_ w sg un:Int} {t:Tr} (h:J2 d at_ w sg un t=true):t=.mk sg (KE d at_ w).1 0 EMB [] []∨t=.mk un 0 (kC d at_ w).1 EMB [] []:=by
 unfold J2 at h
 split at h
 ·cases h
 split at h
 ·exact .inl (bare_iff.1 h)
 ·rw[Bool.and_eq_true] at h;exact .inr (bare_iff.1 h.2)
theorem near_or (typ:Int) (h:ZN typ=true∨YH typ=true):typ=0∨typ=1∨typ=2∨typ=26∨typ=4∨typ=5∨typ=25∨typ=6∨typ=7:=by
 unfold ZN YH at h
 simp only[Bool.or_eq_true,decide_eq_true_eq] at h
 omega
theorem Y0 {d:List UInt8} {typ pos par wid at_:Int} {t:Tr} (hn:ZN typ=true∨YH typ=true) (h:qI d typ pos par wid at_ t=true) :
 (typ=0∧t=.mk 1 0 0 EMB [] [])∨(typ=1∧t=.mk 3 (KE d pos par).1 0 EMB [] [])∨(typ=2∧t=.mk 4 0 (kC d pos par).1 EMB [] [])∨(typ=26∧t=.mk 2 (if (kC d pos par).1=0 then 0 else 1) 0 EMB [] []) ∨
 (typ=4∧∃s,t=.mk 5 0 0 s [] []∧yI s=0∧bB d at_ (YG s)=true)∨(typ=5∧∃s,t=.mk 6 0 0 s [] []∧(yZ d (at_ - wid) wid).1=s.size∧bB d at_ (YG s)=true)∨(typ=25∧∃s,t=.mk 7 0 0 s [] []∧(yZ d (at_ - wid) wid).1=s.size∧bB d at_ s=true) ∨
 (typ=6∧t=.mk 8 (KE d at_ wid).1 0 EMB [] [])∨(typ=7∧t=.mk 9 0 (kC d at_ wid).1 EMB [] []):=by
 rcases near_or typ hn with rfl|rfl|rfl|rfl|rfl|rfl|rfl|rfl|rfl
 ·rw[show qI d 0 pos par wid at_ t=gV d pos par t from rfl] at h
  unfold gV at h
  rw[Bool.and_eq_true] at h
  exact .inl ⟨rfl,bare_iff.1 h.2⟩
 ·rw[show qI d 1 pos par wid at_ t=intF d pos par t from rfl] at h
  unfold intF at h
  rw[Bool.and_eq_true,decide_eq_true_eq] at h
  rcases KT h.2 with e|e
  ·exact .inr (.inl ⟨rfl,e⟩)
  ·rw[e] at h;exact absurd h.1 (by simp[Tr.kind])
 ·rw[show qI d 2 pos par wid at_ t=bC d pos par t from rfl] at h
  unfold bC at h
  rw[Bool.and_eq_true,decide_eq_true_eq] at h
  rcases KT h.2 with e|e
  ·rw[e] at h;exact absurd h.1 (by simp[Tr.kind])
  ·exact .inr (.inr (.inl ⟨rfl,e⟩))
 ·rw[show qI d 26 pos par wid at_ t=gW d pos par t from rfl] at h
  unfold gW at h
  rw[Bool.and_eq_true] at h
  exact .inr (.inr (.inr (.inl ⟨rfl,bare_iff.1 h.2⟩)))
 ·rw[show qI d 4 pos par wid at_ t=keyF d at_ t from rfl] at h
  unfold keyF at h
  simp only[Bool.and_eq_true,decide_eq_true_eq] at h
  exact .inr (.inr (.inr (.inr (.inl ⟨rfl,_,bare_iff.1 h.1.1,h.1.2,h.2⟩))))
 ·rw[show qI d 5 pos par wid at_ t=gX d 5 wid at_ t from rfl] at h
  unfold gX at h
  simp only[Bool.and_eq_true,decide_eq_true_eq,if_true] at h
  exact .inr (.inr (.inr (.inr (.inr (.inl ⟨rfl,_,bare_iff.1 h.1.1.1.1,h.1.2,h.2⟩)))))
 ·rw[show qI d 25 pos par wid at_ t=gX d 25 wid at_ t from rfl] at h
  unfold gX at h
  rw[if_neg (by decide),if_neg (by decide)] at h
  simp only[Bool.and_eq_true,decide_eq_true_eq] at h
  exact .inr (.inr (.inr (.inr (.inr (.inr (.inl ⟨rfl,_,bare_iff.1 h.1.1.1.1,h.1.2,h.2⟩))))))
 ·rw[show qI d 6 pos par wid at_ t=bD d 6 wid at_ t from rfl] at h
  unfold bD at h
  rw[if_pos rfl] at h
  simp only[Bool.and_eq_true,decide_eq_true_eq] at h
  rcases KT h.2 with e|e
  ·exact .inr (.inr (.inr (.inr (.inr (.inr (.inr (.inl ⟨rfl,e⟩)))))))
  ·rw[e] at h;exact absurd h.1.1 (by simp[Tr.kind])
 ·rw[show qI d 7 pos par wid at_ t=bD d 7 wid at_ t from rfl] at h
  unfold bD at h
  rw[if_neg (by decide)] at h
  simp only[Bool.and_eq_true,decide_eq_true_eq] at h
  rcases KT h.2 with e|e
  ·rw[e] at h;exact absurd h.1.1 (by simp[Tr.kind])
  ·exact .inr (.inr (.inr (.inr (.inr (.inr (.inr (.inr ⟨rfl,e⟩)))))))
structure ListP (d:List UInt8) (typ w at_:Int) (k n u:Int) (s:ByteArray) (keys:List ByteArray) (l:List Tr):Prop where
 kind:k=(zI typ).1
 zn:n=0
 zu:u=0
 zs:s=EMB
 nokeys:(zI typ).1≠17→keys=[]
 fix:at_ % w=0
 room:at_+l.length*w+(if v7 (zI typ).1=true then (l.length:Int) else 0)≤d.length
 many:if (zI typ).2=0 then (yZ d (at_ - w) w).2=true∧(yZ d (at_ - w) w).1=l.length else (l.length:Int)=(zI typ).2
 table:(zI typ).1=17→0≤at_ - 3*w∧keys.length=l.length∧n7 d (at_ - 3*w) w keys=true
theorem front_iff {d:List UInt8} {typ w at_ k n u:Int} {s:ByteArray} {keys:List ByteArray} {l:List Tr}:fJ d typ w at_ (.mk k n u s keys l)=true↔ListP d typ w at_ k n u s keys l:=by
 simp only[fJ,Bool.and_eq_true,decide_eq_true_eq,Bool.or_eq_true]
 constructor
 ·rintro ⟨⟨⟨⟨⟨⟨⟨⟨h1,h2⟩,h3⟩,h4⟩,h5⟩,h6⟩,h7⟩,h8⟩,h9⟩
  refine⟨h1,h2,h3,h4,fun hk=>bF (h5.resolve_left hk),h6,h7,?_,fun hk=>?_⟩
  ·split
   ·rename_i hz
    rw[if_pos hz,Bool.and_eq_true,decide_eq_true_eq] at h8;exact h8
   ·rename_i hz
    rw[if_neg hz,decide_eq_true_eq] at h8;exact h8
  ·rw[if_pos hk,Bool.and_eq_true,Bool.and_eq_true,decide_eq_true_eq,decide_eq_true_eq,and_assoc] at h9;exact h9
 ·rintro ⟨h1,h2,h3,h4,h5,h6,h7,h8,h9⟩
  refine⟨⟨⟨⟨⟨⟨⟨⟨h1,h2⟩,h3⟩,h4⟩,?_⟩,h6⟩,h7⟩,?_⟩,?_⟩
  ·by_cases hk:(zI typ).1=17
   ·exact .inl hk
   ·exact .inr (by rw[h5 hk];rfl)
  ·by_cases hz:(zI typ).2=0
   ·rw[if_pos hz] at h8⊢;rw[Bool.and_eq_true,decide_eq_true_eq];exact h8
   ·rw[if_neg hz] at h8⊢;rw[decide_eq_true_eq];exact h8
  ·by_cases hk:(zI typ).1=17
   ·rw[if_pos hk,Bool.and_eq_true,Bool.and_eq_true,decide_eq_true_eq,decide_eq_true_eq,and_assoc];exact h9 hk
   ·rw[if_neg hk]
theorem kids_iff {d:List UInt8} {typ w at_ n:Int}:∀{l:List Tr} {i:Nat},dS d typ w at_ n i l=true↔∀j x,l[j]? = some x→(KQ d typ w at_ n (i+j)).2.2=0∧QN d (KQ d typ w at_ n (i+j)).1 (at_+((i+j:Nat):Int)*w) w (KQ d typ w at_ n (i+j)).2.1 (ZP typ w at_) x=true
 | [],i=>by simp[dS]
 | x::r,i=>by
  simp only[dS,Bool.and_eq_true,decide_eq_true_eq]
  rw[kids_iff (l:=r) (i:=i+1)]
  constructor
  ·rintro ⟨h,hr⟩ j y hy
   cases j with
   | zero=>simp only[List.getElem?_cons_zero,Option.some.injEq] at hy;subst hy;exact h
   | succ j=>
    simp only[List.getElem?_cons_succ] at hy
    have:=hr j y hy
    rw[show i+(j+1)=i+1+j by omega];exact this
  ·intro h
   refine⟨h 0 x rfl,fun j y hy=>?_⟩
   have:=h (j+1) y (by simpa using hy)
   rw[show i+(j+1)=i+1+j by omega] at this;exact this
theorem bG {d:List UInt8} {typ pos par wid lim:Int} {t:Tr} (h:QN d typ pos par wid lim t=true) :
 (isW par=true∧isW wid=true∧Ft.legalB typ=true)∧((ZN typ=true∧qI d typ pos par wid 0 t=true) ∨
  (ZN typ=false∧aI d typ pos par wid lim=true∧YH typ=true∧qI d typ pos par wid (pos - (yZ d pos par).1) t=true) ∨
  (ZN typ=false∧aI d typ pos par wid lim=true∧YH typ=false∧KG d typ wid (pos - (yZ d pos par).1) t=true)):=by
 rw[aN] at h
 rw[gY] at h
 cases hg:(isW par && isW wid && Ft.legalB typ) with
 | false=>rw[if_pos hg] at h;cases h
 | true=>
  rw[if_neg (by rw[hg];decide)] at h
  simp only[Bool.and_eq_true] at hg
  refine⟨⟨hg.1.1,hg.1.2,hg.2⟩,?_⟩
  cases hn:ZN typ with
  | true=>rw[if_pos hn] at h;exact .inl ⟨rfl,h⟩
  | false=>
   rw[if_neg (by rw[hn];decide)] at h
   cases hf:aI d typ pos par wid lim with
   | false=>rw[if_pos hf] at h;cases h
   | true=>
    rw[if_neg (by rw[hf];decide)] at h
    cases ht:YH typ with
    | true=>rw[if_pos ht] at h;exact .inr (.inl ⟨rfl,rfl,rfl,h⟩)
    | false=>rw[if_neg (by rw[ht];decide)] at h;exact .inr (.inr ⟨rfl,rfl,rfl,h⟩)
theorem names_iff {d:List UInt8} {w at_:Int}:∀{l:List ByteArray} {i:Nat},ZO d w at_ i l=true↔∀j x,l[j]? = some x→aM d (at_+((i+j:Nat):Int)*w) w (at_ - w) x=true
 | [],i=>by simp[ZO]
 | x::r,i=>by
  simp only[ZO,Bool.and_eq_true]
  rw[names_iff (l:=r) (i:=i+1)]
  constructor
  ·rintro ⟨h,hr⟩ j y hy
   cases j with
   | zero=>simp only[List.getElem?_cons_zero,Option.some.injEq] at hy;subst hy;exact h
   | succ j=>
    simp only[List.getElem?_cons_succ] at hy
    have:=hr j y hy
    rw[show i+(j+1)=i+1+j by omega];exact this
  ·intro h
   refine⟨h 0 x rfl,fun j y hy=>?_⟩
   have:=h (j+1) y (by simpa using hy)
   rw[show i+(j+1)=i+1+j by omega] at this;exact this
end Go.Proofs.YtjnpcddbgfmpcaaGreatDoor
