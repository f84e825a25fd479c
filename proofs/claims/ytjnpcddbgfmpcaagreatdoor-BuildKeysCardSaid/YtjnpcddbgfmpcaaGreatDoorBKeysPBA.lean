/-
  Texts of the proof.
-/
import Derived.Test.YtjnpcddbgfmpcaaGreatDoorBKeysPAV
import Derived.Test.YtjnpcddbgfmpcaaGreatDoorBKeysPAZ
set_option linter.unusedVariables false
set_option linter.unusedSimpArgs false
namespace Go.Proofs.YtjnpcddbgfmpcaaGreatDoor
open Go Go.ChangeShapes Go.WideShapes Go.ChangeAt Go.RowKit Go.Joins Go.Deep
theorem aN {α:Type} {l:List α} (h:l.length=0):l=[]:=List.length_eq_zero_iff.1 h
theorem bare_iff {t:Tr} {k n u:Int} {s:ByteArray}:Z4 t k n u s=true↔t=.mk k n u s [] []:=by
 unfold Z4
 simp only[Bool.and_eq_true,decide_eq_true_eq]
 obtain⟨k',n',u',s',keys,l⟩:=t
 simp only[Tr.kind,Tr.fn,Tr.fu,Tr.fs,Tr.keys,Tr.kids,Tr.mk.injEq]
 constructor
 ·rintro ⟨⟨⟨⟨⟨rfl,rfl⟩,rfl⟩,rfl⟩,h1⟩,h2⟩
  exact⟨rfl,rfl,rfl,rfl,aN h1,aN h2⟩
 ·rintro ⟨rfl,rfl,rfl,rfl,rfl,rfl⟩
  exact⟨⟨⟨⟨⟨rfl,rfl⟩,rfl⟩,rfl⟩,rfl⟩,rfl⟩
theorem has_iff {d:List UInt8} {at_:Int} {s:ByteArray}:gB d at_ s=true↔0≤at_∧(s.size:Int)≤d.length - at_∧(d.drop at_.toNat).take s.size=s.data.toList:=by
 simp only[gB,Bool.and_eq_true,decide_eq_true_eq,and_assoc]
theorem nM (s:ByteArray):(Y0 s).data.toList=s.data.toList++[0]:=by
 unfold Y0
 rw[ByteArray.data_append,Array.toList_append]
theorem ZR (s:ByteArray):s.data.toList.length=s.size:=rfl
structure ListP (d:List UInt8) (typ w at_:Int) (k n u:Int) (s:ByteArray) (keys:List ByteArray) (l:List Tr):Prop where
 kind:k=(yJ typ).1
 zn:n=0
 zu:u=0
 zs:s=EMB
 nokeys:(yJ typ).1≠17→keys=[]
 fix:at_ % w=0
 room:at_+l.length*w+(if ZQ (yJ typ).1=true then (l.length:Int) else 0)≤d.length
 many:if (yJ typ).2=0 then (qG d (at_ - w) w).2=true∧(qG d (at_ - w) w).1=l.length else (l.length:Int)=(yJ typ).2
 table:(yJ typ).1=17→0≤at_ - 3*w∧keys.length=l.length∧keysF d (at_ - 3*w) w keys=true
theorem front_iff {d:List UInt8} {typ w at_ k n u:Int} {s:ByteArray} {keys:List ByteArray} {l:List Tr}:eN d typ w at_ (.mk k n u s keys l)=true↔ListP d typ w at_ k n u s keys l:=by
 simp only[eN,Bool.and_eq_true,decide_eq_true_eq,Bool.or_eq_true]
 constructor
 ·rintro ⟨⟨⟨⟨⟨⟨⟨⟨h1,h2⟩,h3⟩,h4⟩,h5⟩,h6⟩,h7⟩,h8⟩,h9⟩
  refine⟨h1,h2,h3,h4,fun hk=>aN (h5.resolve_left hk),h6,h7,?_,fun hk=>?_⟩
  ·split
   ·rename_i hz
    rw[if_pos hz,Bool.and_eq_true,decide_eq_true_eq] at h8;exact h8
   ·rename_i hz
    rw[if_neg hz,decide_eq_true_eq] at h8;exact h8
  ·rw[if_pos hk,Bool.and_eq_true,Bool.and_eq_true,decide_eq_true_eq,decide_eq_true_eq,and_assoc] at h9;exact h9
 ·rintro ⟨h1,h2,h3,h4,h5,h6,h7,h8,h9⟩
  refine⟨⟨⟨⟨⟨⟨⟨⟨h1,h2⟩,h3⟩,h4⟩,?_⟩,h6⟩,h7⟩,?_⟩,?_⟩
  ·by_cases hk:(yJ typ).1=17
   ·exact .inl hk
   ·exact .inr (by rw[h5 hk];rfl)
  ·by_cases hz:(yJ typ).2=0
   ·rw[if_pos hz] at h8⊢;rw[Bool.and_eq_true,decide_eq_true_eq];exact h8
   ·rw[if_neg hz] at h8⊢;rw[decide_eq_true_eq];exact h8
  ·by_cases hk:(yJ typ).1=17
   ·rw[if_pos hk,Bool.and_eq_true,Bool.and_eq_true,decide_eq_true_eq,decide_eq_true_eq,and_assoc];exact h9 hk
   ·rw[if_neg hk]
theorem kids_iff {d:List UInt8} {typ w at_ n:Int}:∀{l:List Tr} {i:Nat},cX d typ w at_ n i l=true↔∀j x,l[j]? = some x→(K5 d typ w at_ n (i+j)).2.2=0∧VC d (K5 d typ w at_ n (i+j)).1 (at_+((i+j:Nat):Int)*w) w (K5 d typ w at_ n (i+j)).2.1 (QS typ w at_) x=true
 | [],i=>by simp[cX]
 | x::r,i=>by
  simp only[cX,Bool.and_eq_true,decide_eq_true_eq]
  rw[kids_iff (l:=r) (i:=i+1)]
  constructor
  ·rintro ⟨h,hr⟩ j y hy
   cases j with
   | zero=>simp only[List.getElem?_cons_zero,Option.some.injEq] at hy;subst hy;exact h
   | succ j=>
    simp only[List.getElem?_cons_succ] at hy
    have:=hr j y hy
    rw[show i+(j+1)=i+1+j by omega];exact this
  ·intro h
   refine⟨h 0 x rfl,fun j y hy=>?_⟩
   have:=h (j+1) y (by simpa using hy)
   rw[show i+(j+1)=i+1+j by omega] at this;exact this
theorem lH {d:List UInt8} {typ pos par wid lim:Int} {t:Tr} (h:VC d typ pos par wid lim t=true) :
 (isW par=true∧isW wid=true∧Ft.legalB typ=true)∧((VB typ=true∧K2 d typ pos par wid 0 t=true) ∨
  (VB typ=false∧VZ d typ pos par wid lim=true∧eM typ=true∧K2 d typ pos par wid (pos - (qG d pos par).1) t=true) ∨
  (VB typ=false∧VZ d typ pos par wid lim=true∧eM typ=false∧aM d typ wid (pos - (qG d pos par).1) t=true)):=by
 rw[V5] at h
 rw[gC] at h
 cases hg:(isW par && isW wid && Ft.legalB typ) with
 | false=>rw[if_pos hg] at h;cases h
 | true=>
  rw[if_neg (by rw[hg];decide)] at h
  simp only[Bool.and_eq_true] at hg
  refine⟨⟨hg.1.1,hg.1.2,hg.2⟩,?_⟩
  cases hn:VB typ with
  | true=>rw[if_pos hn] at h;exact .inl ⟨rfl,h⟩
  | false=>
   rw[if_neg (by rw[hn];decide)] at h
   cases hf:VZ d typ pos par wid lim with
   | false=>rw[if_pos hf] at h;cases h
   | true=>
    rw[if_neg (by rw[hf];decide)] at h
    cases ht:eM typ with
    | true=>rw[if_pos ht] at h;exact .inr (.inl ⟨rfl,rfl,rfl,h⟩)
    | false=>rw[if_neg (by rw[ht];decide)] at h;exact .inr (.inr ⟨rfl,rfl,rfl,h⟩)
theorem names_iff {d:List UInt8} {w at_:Int}:∀{l:List ByteArray} {i:Nat},K4 d w at_ i l=true↔∀j x,l[j]? = some x→V4 d (at_+((i+j:Nat):Int)*w) w (at_ - w) x=true
 | [],i=>by simp[K4]
 | x::r,i=>by
  simp only[K4,Bool.and_eq_true]
  rw[names_iff (l:=r) (i:=i+1)]
  constructor
  ·rintro ⟨h,hr⟩ j y hy
   cases j with
   | zero=>simp only[List.getElem?_cons_zero,Option.some.injEq] at hy;subst hy;exact h
   | succ j=>
    simp only[List.getElem?_cons_succ] at hy
    have:=hr j y hy
    rw[show i+(j+1)=i+1+j by omega];exact this
  ·intro h
   refine⟨h 0 x rfl,fun j y hy=>?_⟩
   have:=h (j+1) y (by simpa using hy)
   rw[show i+(j+1)=i+1+j by omega] at this;exact this
end Go.Proofs.YtjnpcddbgfmpcaaGreatDoor
