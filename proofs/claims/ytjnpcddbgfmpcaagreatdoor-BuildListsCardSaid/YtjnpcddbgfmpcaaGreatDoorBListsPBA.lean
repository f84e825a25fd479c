/-
  Texts of the proof.
-/
import Derived.Test.YtjnpcddbgfmpcaaGreatDoorBListsPAV
import Derived.Test.YtjnpcddbgfmpcaaGreatDoorBListsPAZ
set_option linter.unusedVariables false
set_option linter.unusedSimpArgs false
namespace Go.Proofs.YtjnpcddbgfmpcaaGreatDoor
open Go Go.ChangeShapes Go.WideShapes Go.ChangeAt Go.RowKit Go.Joins Go.Deep
theorem bH {α:Type} {l:List α} (h:l.length=0):l=[]:=List.length_eq_zero_iff.1 h
theorem bare_iff {t:Tr} {k n u:Int} {s:ByteArray}:YR t k n u s=true↔t=.mk k n u s [] []:=by
 unfold YR
 simp only[Bool.and_eq_true,decide_eq_true_eq]
 obtain⟨k',n',u',s',keys,l⟩:=t
 simp only[Tr.kind,Tr.fn,Tr.fu,Tr.fs,Tr.keys,Tr.kids,Tr.mk.injEq]
 constructor
 ·rintro ⟨⟨⟨⟨⟨rfl,rfl⟩,rfl⟩,rfl⟩,h1⟩,h2⟩
  exact⟨rfl,rfl,rfl,rfl,bH h1,bH h2⟩
 ·rintro ⟨rfl,rfl,rfl,rfl,rfl,rfl⟩
  exact⟨⟨⟨⟨⟨rfl,rfl⟩,rfl⟩,rfl⟩,rfl⟩,rfl⟩
theorem has_iff {d:List UInt8} {at_:Int} {s:ByteArray}:hasF d at_ s=true↔0≤at_∧(s.size:Int)≤d.length - at_∧(d.drop at_.toNat).take s.size=s.data.toList:=by
 simp only[hasF,Bool.and_eq_true,decide_eq_true_eq,and_assoc]
theorem oF (s:ByteArray):(cY s).data.toList=s.data.toList++[0]:=by
 unfold cY
 rw[ByteArray.data_append,Array.toList_append]
theorem YD (s:ByteArray):s.data.toList.length=s.size:=rfl
theorem g9 {s:ByteArray} (h:yL s=0):(0:UInt8)∉s.data.toList:=by
 rw[keyE_eq] at h
 by_cases hz:nI s=true
 ·rw[if_pos hz] at h;cases h
 ·unfold nI at hz;simpa using hz
structure ListP (d:List UInt8) (typ w at_:Int) (k n u:Int) (s:ByteArray) (keys:List ByteArray) (l:List Tr):Prop where
 kind:k=(yI typ).1
 zn:n=0
 zu:u=0
 zs:s=EMB
 nokeys:(yI typ).1≠17→keys=[]
 fix:at_ % w=0
 room:at_+l.length*w+(if JA (yI typ).1=true then (l.length:Int) else 0)≤d.length
 many:if (yI typ).2=0 then (qV d (at_ - w) w).2=true∧(qV d (at_ - w) w).1=l.length else (l.length:Int)=(yI typ).2
 table:(yI typ).1=17→0≤at_ - 3*w∧keys.length=l.length∧keysF d (at_ - 3*w) w keys=true
theorem front_iff {d:List UInt8} {typ w at_ k n u:Int} {s:ByteArray} {keys:List ByteArray} {l:List Tr}:fM d typ w at_ (.mk k n u s keys l)=true↔ListP d typ w at_ k n u s keys l:=by
 simp only[fM,Bool.and_eq_true,decide_eq_true_eq,Bool.or_eq_true]
 constructor
 ·rintro ⟨⟨⟨⟨⟨⟨⟨⟨h1,h2⟩,h3⟩,h4⟩,h5⟩,h6⟩,h7⟩,h8⟩,h9⟩
  refine⟨h1,h2,h3,h4,fun hk=>bH (h5.resolve_left hk),h6,h7,?_,fun hk=>?_⟩
  ·split
   ·rename_i hz
    rw[if_pos hz,Bool.and_eq_true,decide_eq_true_eq] at h8;exact h8
   ·rename_i hz
    rw[if_neg hz,decide_eq_true_eq] at h8;exact h8
  ·rw[if_pos hk,Bool.and_eq_true,Bool.and_eq_true,decide_eq_true_eq,decide_eq_true_eq,and_assoc] at h9;exact h9
 ·rintro ⟨h1,h2,h3,h4,h5,h6,h7,h8,h9⟩
  refine⟨⟨⟨⟨⟨⟨⟨⟨h1,h2⟩,h3⟩,h4⟩,?_⟩,h6⟩,h7⟩,?_⟩,?_⟩
  ·by_cases hk:(yI typ).1=17
   ·exact .inl hk
   ·exact .inr (by rw[h5 hk];rfl)
  ·by_cases hz:(yI typ).2=0
   ·rw[if_pos hz] at h8⊢;rw[Bool.and_eq_true,decide_eq_true_eq];exact h8
   ·rw[if_neg hz] at h8⊢;rw[decide_eq_true_eq];exact h8
  ·by_cases hk:(yI typ).1=17
   ·rw[if_pos hk,Bool.and_eq_true,Bool.and_eq_true,decide_eq_true_eq,decide_eq_true_eq,and_assoc];exact h9 hk
   ·rw[if_neg hk]
theorem kids_iff {d:List UInt8} {typ w at_ n:Int}:∀{l:List Tr} {i:Nat},dV d typ w at_ n i l=true↔∀j x,l[j]? = some x→(KT d typ w at_ n (i+j)).2.2=0∧VV d (KT d typ w at_ n (i+j)).1 (at_+((i+j:Nat):Int)*w) w (KT d typ w at_ n (i+j)).2.1 (ZN typ w at_) x=true
 | [],i=>by simp[dV]
 | x::r,i=>by
  simp only[dV,Bool.and_eq_true,decide_eq_true_eq]
  rw[kids_iff (l:=r) (i:=i+1)]
  constructor
  ·rintro ⟨h,hr⟩ j y hy
   cases j with
   | zero=>simp only[List.getElem?_cons_zero,Option.some.injEq] at hy;subst hy;exact h
   | succ j=>
    simp only[List.getElem?_cons_succ] at hy
    have:=hr j y hy
    rw[show i+(j+1)=i+1+j by omega];exact this
  ·intro h
   refine⟨h 0 x rfl,fun j y hy=>?_⟩
   have:=h (j+1) y (by simpa using hy)
   rw[show i+(j+1)=i+1+j by omega] at this;exact this
theorem l8 {d:List UInt8} {typ pos par wid lim:Int} {t:Tr} (h:VV d typ pos par wid lim t=true) :
 (isW par=true∧isW wid=true∧Ft.legalB typ=true)∧((VU typ=true∧ZL d typ pos par wid 0 t=true) ∨
  (VU typ=false∧bG d typ pos par wid lim=true∧bF typ=true∧ZL d typ pos par wid (pos - (qV d pos par).1) t=true) ∨
  (VU typ=false∧bG d typ pos par wid lim=true∧bF typ=false∧QN d typ wid (pos - (qV d pos par).1) t=true)):=by
 rw[aN] at h
 rw[gY] at h
 cases hg:(isW par && isW wid && Ft.legalB typ) with
 | false=>rw[if_pos hg] at h;cases h
 | true=>
  rw[if_neg (by rw[hg];decide)] at h
  simp only[Bool.and_eq_true] at hg
  refine⟨⟨hg.1.1,hg.1.2,hg.2⟩,?_⟩
  cases hn:VU typ with
  | true=>rw[if_pos hn] at h;exact .inl ⟨rfl,h⟩
  | false=>
   rw[if_neg (by rw[hn];decide)] at h
   cases hf:bG d typ pos par wid lim with
   | false=>rw[if_pos hf] at h;cases h
   | true=>
    rw[if_neg (by rw[hf];decide)] at h
    cases ht:bF typ with
    | true=>rw[if_pos ht] at h;exact .inr (.inl ⟨rfl,rfl,rfl,h⟩)
    | false=>rw[if_neg (by rw[ht];decide)] at h;exact .inr (.inr ⟨rfl,rfl,rfl,h⟩)
theorem names_iff {d:List UInt8} {w at_:Int}:∀{l:List ByteArray} {i:Nat},ZM d w at_ i l=true↔∀j x,l[j]? = some x→fK d (at_+((i+j:Nat):Int)*w) w (at_ - w) x=true
 | [],i=>by simp[ZM]
 | x::r,i=>by
  simp only[ZM,Bool.and_eq_true]
  rw[names_iff (l:=r) (i:=i+1)]
  constructor
  ·rintro ⟨h,hr⟩ j y hy
   cases j with
   | zero=>simp only[List.getElem?_cons_zero,Option.some.injEq] at hy;subst hy;exact h
   | succ j=>
    simp only[List.getElem?_cons_succ] at hy
    have:=hr j y hy
    rw[show i+(j+1)=i+1+j by omega];exact this
  ·intro h
   refine⟨h 0 x rfl,fun j y hy=>?_⟩
   have:=h (j+1) y (by simpa using hy)
   rw[show i+(j+1)=i+1+j by omega] at this;exact this
end Go.Proofs.YtjnpcddbgfmpcaaGreatDoor
